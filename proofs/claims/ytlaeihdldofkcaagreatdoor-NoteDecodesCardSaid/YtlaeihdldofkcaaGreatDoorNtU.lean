/- The document's numbers and texts as bytes: laid and taken as the program does. -/
import Derived.Test.YtlaeihdldofkcaaGreatDoorNtZ
import Derived.Test.YtlaeihdldofkcaaGreatDoorPMx8
import Derived.Test.YtlaeihdldofkcaaGreatDoorPMx9
namespace Go.Proofs.YtlaeihdldofkcaaGreatDoor.NK
open Go.RowKit Go.Proofs.YtlaeihdldofkcaaGreatDoorW.PrintWords Go.Proofs.YtlaeihdldofkcaaGreatDoorW.PrintMore Go.Proofs.YtlaeihdldofkcaaGreatDoor.B Go.Proofs.YtlaeihdldofkcaaGreatDoor.PN Go.Proofs.YtlaeihdldofkcaaGreatDoor.IS
set_option linter.unusedSimpArgs false
set_option linter.unusedVariables false
theorem one_byte (x:Int) (m:Nat) (hx:x=(m:Int)) (hm:m< 256):strOfNums [x % 256]=ba [UInt8.ofNat m]:=by
  apply str_ext
  rw[strOfNums_data,ba_data]
  have e:(x % 256).toNat=m:=by omega
  simp[e]
theorem w64u (x:Int) (m:Nat) (hx:x=(m:Int)) (hm:m< 18446744073709551616):IntKind.u64.wrap x=(m:Int):=by
  rw[seal_Sum.w64];omega
theorem rnumber_ev:∀ (d n:Nat),n≤d→n< 18446744073709551616→Ev (fun k=> ententeref01_Number.f k (n:Int)) (ba (numL n))
  |d,n,hd,hn=> by
    refine Ev.step (fun k=> by rw[ententeref01_Number.f]) ?_
    by_cases h:n< 128
    · rw[numL_lo h]
      exact ev_pos (by omega) (Ev.some (one_byte _ n rfl (by omega)))
    · match d,hd with
      |0,hd=> omega
      |d+1,hd=>
      have hl:=numL_le n hn
      rw[numL_hi h]at hl ⊢
      rw[List.length_cons]at hl
      have e1:IntKind.u64.wrap (Int.tmod (n:Int) 128+128)=((n % 128+128:Nat):Int):=w64u _ _ (by rw[Int.tmod_eq_emod_of_nonneg (by omega)];omega) (by omega)
      have e2:IntKind.u64.wrap (Int.tdiv (n:Int) 128)=((n / 128:Nat):Int):=w64u _ _ (by rw[Int.tdiv_eq_ediv_of_nonneg (by omega)];omega) (by omega)
      refine ev_neg (by omega) (ev_bind0 rfl ?_)
      rw[e1,e2]
      refine Ev.bind (rnumber_ev d (n / 128) (by omega) (by omega)) ?_
      rw[one_byte _ (n % 128+128) rfl (by omega),ba_size,ba_size,ba_app]
      exact ev_pos (by simp only[List.length_cons,List.length_nil];omega) (Ev.some rfl)
theorem rtext_ev (s:ByteArray) (h:s.size≤1000000):Ev (fun k=> ententeref01_Text.f k s) (ba (textL s)):=by
  unfold ententeref01_Text.f
  rw[w64u (s.size:Int) s.size rfl (by omega)]
  have hl:=numL_le s.size (by omega)
  refine Ev.bind (rnumber_ev _ s.size (Nat.le_refl _) (by omega)) (ev_pos (by rw[ba_size];omega) (Ev.some ?_))
  apply str_ext
  rw[data_append,ba_data,ba_data];rfl
/-! ### bytes' value -/
def lev:List UInt8→Nat
  |[]=> 0
  |c :: l=> c.toNat % 128+128 * lev l
theorem lev_drop:∀ (i:Nat) (l:List UInt8),128 * lev (l.drop (i+1))≤lev l
  |_,[]=> by rw[List.drop_nil];unfold lev;omega
  |0,c :: l=> by rw[List.drop_succ_cons,List.drop_zero];show _≤c.toNat % 128+128 * lev l;omega
  |i+1,c :: l=> by
    have:=lev_drop i l
    rw[List.drop_succ_cons]
    show _≤c.toNat % 128+128 * lev l
    omega
theorem lev_snoc:∀ (l:List UInt8) (c:UInt8),lev (l++[c])=lev l+(c.toNat % 128) * 2 ^ (7 * l.length)
  |[],c=> by simp[lev]
  |x :: l,c=> by
    rw[List.cons_append]
    show x.toNat % 128+128 * lev (l++[c])=x.toNat % 128+128 * lev l+_
    rw[lev_snoc l c,List.length_cons,pw7,Nat.mul_add,← Nat.add_assoc]
    congr 1
    rw[← Nat.mul_assoc,← Nat.mul_assoc,Nat.mul_comm 128]
theorem lev_lt:∀ (l:List UInt8),lev l< 2 ^ (7 * l.length)
  |[]=> by simp[lev]
  |x :: l=> by
    have:=lev_lt l
    rw[List.length_cons,pw7]
    show x.toNat % 128+128 * lev l< _
    omega
theorem value_loop (b:ByteArray) (hb:b.size≤1000):∀ (i:Nat),i≤b.size→lev (b.data.toList.drop i)< 18446744073709551616→
    Ev (fun k=> ententeref01_value.l0 k b (lev (b.data.toList.drop i):Int) ((i:Int) - 1)) (if lev b.data.toList< 18446744073709551616 then((lev b.data.toList:Int),true)else(0,false))
  |0,hi,h=> by
    rw[List.drop_zero]at h ⊢
    rw[if_pos h]
    exact Ev.step (fun k=> by rw[ententeref01_value.l0]) (ev_neg (by omega) (Ev.some rfl))
  |i+1,hi,h=> by
    obtain⟨c,hc,hbt⟩:=drop_bt b i (by omega)
    rw[show((i+1:Nat):Int) - 1=(i:Int)by omega]
    refine Ev.step (fun k=> by rw[ententeref01_value.l0]) (ev_pos (by omega) ?_)
    by_cases hbig:lev (b.data.toList.drop (i+1))> 144115188075855871
    · have:=lev_drop i b.data.toList
      rw[if_neg (by omega)]
      exact ev_pos (by omega) (Ev.some rfl)
    · refine ev_neg (by omega) (ev_pos (by omega) (ev_pos (by omega) ?_))
      have e:lev (b.data.toList.drop i)=c.toNat % 128+128 * lev (b.data.toList.drop (i+1)):=by rw[hc];rfl
      have ih:=value_loop b hb i (by omega) (by omega)
      rw[hbt,w64u (128 * (lev (b.data.toList.drop (i+1)):Int)) (128 * lev (b.data.toList.drop (i+1))) (by omega) (by omega),w64u (Int.tmod (c.toNat:Int) 128) (c.toNat % 128) (by rw[Int.tmod_eq_emod_of_nonneg (by omega)];omega) (by omega),w64u _ (lev (b.data.toList.drop i)) (by omega) (by omega),wrap64_of (by omega) (by omega)]
      exact ih
theorem value_ev (b:ByteArray) (hb:b.size≤1000):Ev (fun k=> ententeref01_value.f k b) (if lev b.data.toList< 18446744073709551616 then((lev b.data.toList:Int),true)else(0,false)):=by
  unfold ententeref01_value.f
  rw[wrap64_of (by omega) (by omega)]
  have:=value_loop b hb b.size (Nat.le_refl _)
  rw[List.drop_of_length_le (by rw[← size_eq_length];exact Nat.le_refl _)]at this
  exact this (by simp[lev])
/-! ### a number taken -/
theorem rtake_loop (s:ByteArray) (hs:s.size≤1000000) (at_:Nat):∀ (d j:Nat),10 - j=d→j≤9→at_+j≤s.size→tn 0 0 (s.data.toList.drop at_)=tn j (lev ((s.data.toList.drop at_).take j)) (s.data.toList.drop (at_+j))→
    Ev (fun k=> ententeref01_TakeNumber.l0 k s (at_:Int) ((at_+j:Nat):Int)) (tnv s at_):=by
  intro d
  induction d with
  |zero=> intro j hd hj;omega
  |succ d ih=>
  intro j hd hj hat hP
  refine Ev.step (fun k=> by rw[ententeref01_TakeNumber.l0]) ?_
  by_cases hend:at_+j=s.size
  · have hnil:s.data.toList.drop (at_+j)=[]:=List.drop_of_length_le (by rw[← size_eq_length];omega)
    rw[hnil]at hP
    have hv:tnv s at_=(0,0,10):=by unfold tnv;rw[hP,tn,if_pos (by omega)];rfl
    rw[hv]
    exact ev_neg (by omega) (Ev.step (fun k=> by rw[ententeref01_TakeNumber.j2]) (ev_neg (by decide) (ev_pos (by omega) (Ev.some rfl))))
  obtain⟨c,hc,hbt⟩:=drop_bt s (at_+j) (by omega)
  refine ev_pos (by omega) (ev_pos (by omega) ?_)
  rw[hbt]
  have hlen:j< (s.data.toList.drop at_).length:=by rw[List.length_drop,← size_eq_length];omega
  have htk:(s.data.toList.drop at_).take (j+1)=(s.data.toList.drop at_).take j++[c]:=by
    rw[List.take_succ_eq_append_getElem hlen]
    congr 2
    have:=List.drop_eq_getElem_cons hlen
    rw[List.drop_drop,hc]at this
    exact(List.cons.inj this).1.symm
  have hlj:((s.data.toList.drop at_).take j).length=j:=by rw[List.length_take];omega
  have hlev:lev ((s.data.toList.drop at_).take (j+1))=lev ((s.data.toList.drop at_).take j)+(c.toNat % 128) * 2 ^ (7 * j):=by rw[htk,lev_snoc,hlj]
  have hacc:lev ((s.data.toList.drop at_).take j)< 2 ^ (7 * j):=by have:=lev_lt ((s.data.toList.drop at_).take j);rw[hlj]at this;exact this
  rw[hc,tn,if_pos (show j< 10 by omega),← hlev]at hP
  by_cases hhi:128≤c.toNat
  · rw[decide_eq_true (by omega)]
    refine Ev.step (fun k=> by rw[ententeref01_TakeNumber.j2]) (ev_pos rfl ?_)
    rw[wrap64_of (x:=((at_+j:Nat):Int)+1) (by omega) (by omega),wrap64_of (by omega) (by omega)]
    by_cases h9:j=9
    · have hv:tnv s at_=(0,0,11):=by unfold tnv;rw[hP,if_pos ⟨h9,by omega⟩];rfl
      rw[hv]
      exact ev_pos (by omega) (Ev.some rfl)
    · rw[if_neg (fun h=> h9 h.1),if_pos hhi]at hP
      have ih':=ih (j+1) (by omega) (by omega) (by omega) hP
      refine ev_neg (by omega) ?_
      rw[show((at_+j:Nat):Int)+1=((at_+(j+1):Nat):Int)by omega]
      exact ih'
  rw[decide_eq_false (by omega)]
  rw[if_neg hhi]at hP
  refine Ev.step (fun k=> by rw[ententeref01_TakeNumber.j2]) (ev_neg (by decide) (ev_neg (by omega) (ev_pos (by omega) ?_)))
  rw[wrap64_of (x:=((at_+j:Nat):Int)+1) (by omega) (by omega)]
  refine ev_pos (by omega) (ev_pos (by omega) ?_)
  have hB:(s.extract ((at_:Int)).toNat (((at_+j:Nat):Int)+1).toNat).data.toList=(s.data.toList.drop at_).take (j+1):=by
    rw[extract_ba,show((at_:Int)).toNat=at_ by omega,show(((at_+j:Nat):Int)+1).toNat - at_=j+1 by omega]
  have hBs:(s.extract ((at_:Int)).toNat (((at_+j:Nat):Int)+1).toNat).size≤1000:=by rw[size_eq_length,hB,List.length_take];omega
  refine Ev.bind (value_ev _ hBs) ?_
  rw[hB,toL,hB]
  have hsplit:s.data.toList.drop at_=(s.data.toList.drop at_).take (j+1)++s.data.toList.drop (at_+j+1):=by
    rw[show at_+j+1=at_+(j+1)by omega,← List.drop_drop,List.take_append_drop]
  have e11:¬ (tnv s at_).2.2=0→tnv s at_=(0,0,11):=by
    intro h
    unfold tnv at h ⊢
    rw[hP]at h ⊢
    by_cases ha:j=9∧1< c.toNat
    · rw[if_pos ha];rfl
    · rw[if_neg ha]at h ⊢
      by_cases hb:c.toNat=0∧0< j
      · rw[if_pos hb];rfl
      · rw[if_neg hb]at h
        exact absurd rfl h
  have ok_num:(tnv s at_).2.2=0→lev ((s.data.toList.drop at_).take (j+1))< 18446744073709551616∧numL (lev ((s.data.toList.drop at_).take (j+1)))=(s.data.toList.drop at_).take (j+1):=by
    intro h
    rcases hr:tnv s at_ with⟨n,tq,e⟩
    rw[hr]at h
    obtain⟨m,t,rfl,rfl,g1,g2,g3,g4⟩:=tnv_back s at_ n tq e hr h
    unfold tnv at hr
    rw[hP]at hr
    by_cases ha:j=9∧1< c.toNat
    · rw[if_pos ha]at hr
      have:(0,0,(11:Int))=((m:Int),(t:Int),e):=hr
      simp only[Prod.mk.injEq]at this
      have:e=0:=h
      omega
    · rw[if_neg ha]at hr
      by_cases hb:c.toNat=0∧0< j
      · rw[if_pos hb]at hr
        have:(0,0,(11:Int))=((m:Int),(t:Int),e):=hr
        simp only[Prod.mk.injEq]at this
        have:e=0:=h
        omega
      · rw[if_neg hb]at hr
        have:(((lev ((s.data.toList.drop at_).take (j+1)):Nat):Int),((at_+(j+1):Nat):Int),(0:Int))=((m:Int),(t:Int),e):=hr
        simp only[Prod.mk.injEq]at this
        have em:m=lev ((s.data.toList.drop at_).take (j+1)):=by omega
        have et:t=at_+j+1:=by omega
        subst em
        rw[et]at g3
        refine⟨?_,?_⟩
        · rw[hlev]
          by_cases h9:j=9
          · subst h9
            exact acc_last _ _ hacc (by omega)
          · exact acc_small j _ _ (by omega) hacc (by omega)
        · have h1:=g3
          rw[hsplit]at h1
          conv at h1=> rhs;rw[List.take_left' (by rw[List.length_take];omega)]
          exact(List.append_cancel_right h1).symm
  by_cases hv:lev ((s.data.toList.drop at_).take (j+1))< 18446744073709551616
  · rw[if_pos hv]
    refine ev_pos rfl (Ev.bind (rnumber_ev _ _ (Nat.le_refl _) hv) ?_)
    rw[toL,ba_data]
    by_cases hn:numL (lev ((s.data.toList.drop at_).take (j+1)))=(s.data.toList.drop at_).take (j+1)
    · refine ev_pos hn (Ev.some ?_)
      have:=tnv_of s at_ _ (s.data.toList.drop (at_+j+1)) hv (by rw[hn];exact hsplit)
      rw[this,hn,List.length_take,Nat.min_eq_left (by omega)]
      congr 2
    · rw[e11 (fun h=> hn (ok_num h).2)]
      exact ev_neg hn (Ev.some rfl)
  · rw[if_neg hv,e11 (fun h=> hv (ok_num h).1)]
    exact ev_neg (by decide) (Ev.some rfl)
theorem rtake_ev (s:ByteArray) (hs:s.size≤1000000) (at_:Nat) (hat:at_≤s.size):Ev (fun k=> ententeref01_TakeNumber.f k s (at_:Int)) (tnv s at_):=by
  unfold ententeref01_TakeNumber.f
  refine ev_neg (by omega) ?_
  rw[decide_eq_false (by omega)]
  have h:=rtake_loop s hs at_ 10 0 rfl (by omega) (by omega) rfl
  rw[Nat.add_zero]at h
  refine Ev.step (fun k=> by rw[ententeref01_TakeNumber.j0]) ?_
  exact ev_neg (by decide) h
theorem rttext_ev (s:ByteArray) (hs:s.size≤1000000) (at_:Nat) (hat:at_≤s.size):Ev (fun k=> ententeref01_TakeText.f k s (at_:Int)) (txv s at_):=by
  unfold ententeref01_TakeText.f
  refine Ev.bind (rtake_ev s hs at_ hat) ?_
  rcases hr:tnv s at_ with⟨n,tq,e⟩
  by_cases he:e=0
  case neg=>
    have ht:txv s at_=(⟨#[]⟩,0,e):=by unfold txv;rw[hr];exact if_neg he
    rw[ht]
    exact ev_neg he (Ev.some rfl)
  obtain⟨m,t,rfl,rfl,h1,h2,h3,_⟩:=tnv_back s at_ n tq e hr he
  refine ev_pos he ?_
  show Ev (fun n=> if(m:Int)> (IntKind.u64.wrap (wrap64 ((s.size:Int) - (t:Int))))then _ else _) _
  rw[wrap64_of (x:=(s.size:Int) - (t:Int)) (by omega) (by omega),u64_in (x:=(s.size:Int) - (t:Int)) (by omega) (by omega)]
  by_cases hm:(m:Int)> (s.size:Int) - (t:Int)
  · have ht:txv s at_=(⟨#[]⟩,0,10):=by unfold txv;rw[hr];exact(if_pos he).trans (if_pos hm)
    rw[ht]
    exact ev_pos hm (Ev.some rfl)
  · have ht:txv s at_=(s.extract ((t:Int)).toNat ((t:Int)+(m:Int)).toNat,(t:Int)+(m:Int),0):=by unfold txv;rw[hr];exact(if_pos he).trans (if_neg hm)
    rw[ht]
    have hw:wrap64 (m:Int)=(m:Int):=wrap64_of (by omega) (by omega)
    refine ev_neg hm ?_
    rw[hw]
    show Ev (fun n=> if 0≤(t:Int)then(if(t:Int)≤wrap64 ((t:Int)+(m:Int))then _ else _)else _) _
    rw[wrap64_of (x:=(t:Int)+(m:Int)) (by omega) (by omega)]
    exact ev_pos (by omega) (ev_pos (by omega) (ev_pos (by omega) (Ev.some rfl)))
end Go.Proofs.YtlaeihdldofkcaaGreatDoor.NK

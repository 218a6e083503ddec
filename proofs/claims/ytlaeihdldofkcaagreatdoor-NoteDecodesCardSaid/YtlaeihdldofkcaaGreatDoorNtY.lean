/- The document seals and opens as the program does. -/
import Derived.Test.YtlaeihdldofkcaaGreatDoorNtV
namespace Go.Proofs.YtlaeihdldofkcaaGreatDoor.NK
open Go.RowKit Go.Proofs.YtlaeihdldofkcaaGreatDoorW.PrintWords Go.Proofs.YtlaeihdldofkcaaGreatDoorW.PrintMore Go.Proofs.YtlaeihdldofkcaaGreatDoor.B Go.Proofs.YtlaeihdldofkcaaGreatDoor.PN Go.Proofs.YtlaeihdldofkcaaGreatDoor.IS
set_option linter.unusedSimpArgs false
set_option linter.unusedVariables false
def eight1 (n:Nat):Nat→List Int
  |0=> []
  |k+1=> ((n:Int) % 256) % 256 :: eight1 (n / 256) k
theorem reight_loop:∀ (d j n:Nat) (xs:List Int),8 - j=d→j≤8→xs.length=j→n< 18446744073709551616→Ev (fun k=> ententeref02_eight.l0 k (n:Int) xs (j:Int)) (strOfNums (xs++eight1 n d)):=by
  intro d
  induction d with
  |zero=>
    intro j n xs hd hj hx hn
    refine Ev.step (fun k=> by rw[ententeref02_eight.l0]) (ev_neg (by omega) (Ev.some ?_))
    show _=strOfNums (xs++[])
    rw[List.append_nil]
  |succ d ih=>
    intro j n xs hd hj hx hn
    refine Ev.step (fun k=> by rw[ententeref02_eight.l0]) (ev_pos (by omega) (ev_pos (by omega) ?_))
    have ih':=ih (j+1) (n / 256) (xs++[((n:Int) % 256) % 256]) (by omega) (by omega) (by rw[List.length_append,hx];rfl) (by omega)
    rw[List.append_assoc]at ih'
    rw[w64u (Int.tdiv (n:Int) 256) (n / 256) (by rw[Int.tdiv_eq_ediv_of_nonneg (by omega)];omega) (by omega),show wrap64 ((j:Int)+1)=((j+1:Nat):Int)by rw[wrap64_of (by omega) (by omega)];omega,Int.tmod_eq_emod_of_nonneg (by omega)]
    exact ih'
theorem reight_ev (x:Int) (h:R64 x):Ev (fun k=> ententeref02_eight.f k x) (ba (eightL x)):=by
  obtain⟨n,rfl⟩:=Int.eq_ofNat_of_zero_le h.1
  have hn:n< 18446744073709551616:=by have:=h.2;omega
  unfold ententeref02_eight.f
  have:=reight_loop 8 0 n [] rfl (by omega) rfl hn
  rw[List.nil_append]at this
  have e:strOfNums (eight1 n 8)=ba (eightL (n:Int)):=by
    apply str_ext
    rw[strOfNums_data,ba_data]
    unfold eightL seal_eight.l
    simp only[eight1,List.range,List.range.loop,List.map_cons,List.map_nil]
    simp only[List.cons.injEq,and_true]
    refine⟨?_,?_,?_,?_,?_,?_,?_,?_⟩<;> (congr 1;omega)
  rw[e]at this
  exact this
theorem rseal_ev (v:Nat) (hv:v≤255) (b:ByteArray) (hb:b.size≤1000000):Ev (fun k=> ententeref02_Seal.f k (v:Int) b) (sealv v b):=by
  unfold ententeref02_Seal.f
  refine ev_neg (by omega) ?_
  rw[decide_eq_false (by omega)]
  refine Ev.step (fun k=> by rw[ententeref02_Seal.j0]) (ev_neg (by decide) ?_)
  by_cases h:b.size> 30000
  · rw[show sealv v b=(⟨#[]⟩,3)from if_pos h]
    exact ev_pos (by omega) (Ev.some rfl)
  · rw[show sealv v b=(ba (sealL v b),0)from if_neg h]
    refine ev_neg (by omega) (ev_bind0 rfl (Ev.bind (rtext_ev b hb) ?_))
    obtain⟨hl,hl2⟩:=textL_len b hb
    have h2:strOfNums [231,(v:Int) % 256]=ba [231,UInt8.ofNat v]:=by
      apply str_ext
      rw[strOfNums_data,ba_data]
      have e:((v:Int) % 256).toNat=v:=by omega
      simp[e]
    rw[h2,ba_app]
    rw[ba_size,ba_size]
    refine ev_pos (by rw[hl];simp only[List.length_cons,List.length_nil];omega) ?_
    have h3:[231,UInt8.ofNat v]++textL b=headL v b:=rfl
    rw[h3]
    refine Ev.bind (rsum_ev _ (by rw[ba_size];unfold headL;simp only[List.length_cons];omega)) ?_
    rw[ba_data]
    refine Ev.bind (reight_ev _ (sumL_rng _)) ?_
    rw[ba_size,eight_len,ba_app]
    exact ev_pos (by rw[hl];simp only[List.length_cons,List.length_nil];omega) (Ev.some rfl)
theorem head_take (s:ByteArray) (v:Nat) (hv:v≤255) (h2:2≤s.size) (h1:bt s 0=231) (h3:bt s 1=(v:Int)) (m t:Nat) (g2:t+m≤s.size) (g3:s.data.toList.drop 2=numL m++s.data.toList.drop t) (g4:t=2+(numL m).length) :
    s.data.toList.take (t+m)=headL v (s.extract t (t+m)):=by
  have hbd:(s.extract t (t+m)).data.toList=(s.data.toList.drop t).take m:=by rw[data_extract,Nat.add_sub_cancel_left]
  have hbs:(s.extract t (t+m)).size=m:=by rw[size_eq_length,hbd,List.length_take,List.length_drop,← size_eq_length];omega
  have hsl:2≤s.data.toList.length:=by rw[← size_eq_length];omega
  have c0:s.data.toList=231 :: UInt8.ofNat v :: s.data.toList.drop 2:=by
    have a0:s.data.toList=s.data.toList.drop 0:=rfl
    have p0:=List.drop_eq_getElem_cons (l:=s.data.toList) (i:=0) (by omega)
    have p1:=List.drop_eq_getElem_cons (l:=s.data.toList) (i:=1) (by omega)
    have q0:bt s ((0:Nat):Int)=(s.data.toList[0].toNat:Int):=bt_get s 0 (by omega)
    have q1:bt s ((1:Nat):Int)=(s.data.toList[1].toNat:Int):=bt_get s 1 (by omega)
    have r0:s.data.toList[0]=231:=by
      apply UInt8.toNat_inj.1
      have:(s.data.toList[0].toNat:Int)=231:=by rw[← q0];exact h1
      show s.data.toList[0].toNat=231
      omega
    have r1:s.data.toList[1]=UInt8.ofNat v:=by
      apply UInt8.toNat_inj.1
      have:(s.data.toList[1].toNat:Int)=(v:Int):=by rw[← q1];exact h3
      rw[toNat_of v (by omega)]
      omega
    rw[r0]at p0
    rw[r1]at p1
    conv=> lhs;rw[a0,p0]
    exact congrArg _ p1
  unfold headL textL
  rw[hbs,hbd,c0,g3]
  have hlen:(numL m).length=t - 2:=by omega
  rw[show t+m=(t+m - 2)+1+1 by omega,List.take_succ_cons,List.take_succ_cons]
  congr 2
  rw[show t+m - 2=(numL m).length+m by omega,List.take_length_add_append,← g3,← c0]
theorem ropen_ev (s:ByteArray) (hs:s.size≤1000000) (v:Nat) (hv:v≤255):Ev (fun k=> ententeref02_Open.f k s 0 (v:Int)) (openv s v):=by
  unfold ententeref02_Open.f
  refine ev_neg (by omega) (ev_neg (by omega) (ev_neg (by omega) ?_))
  rw[decide_eq_false (by omega)]
  refine Ev.step (fun k=> by rw[ententeref02_Open.j0]) (ev_neg (by decide) (ev_pos (by omega) (ev_pos (by omega) ?_)))
  have ex:s.extract (0:Int).toNat s.size=s:=by
    apply str_ext
    rw[data_extract]
    show(s.data.toList.drop 0).take (s.size - 0)=_
    rw[List.drop_zero,Nat.sub_zero,size_eq_length,List.take_length]
  rw[ex]
  by_cases h0:s.size=0
  · rw[show openv s v=(⟨#[]⟩,0,10)from if_pos h0]
    exact ev_pos (by rw[toL];exact List.length_eq_zero_iff.1 (by rw[← size_eq_length];exact h0)) (Ev.some rfl)
  refine ev_neg (fun h=> h0 (by rw[size_eq_length,← toL,h];rfl)) (ev_pos (by omega) ?_)
  by_cases h1:bt s 0=231
  case neg=>
    rw[show openv s v=(⟨#[]⟩,0,20)from(if_neg h0).trans (if_pos h1)]
    exact ev_neg h1 (Ev.some rfl)
  refine ev_pos h1 ?_
  by_cases h2:s.size=1
  · rw[show openv s v=(⟨#[]⟩,0,10)from(if_neg h0).trans ((if_neg (by simpa using h1)).trans (if_pos h2))]
    exact ev_pos (by omega) (Ev.some rfl)
  have hb:=bt_range s 1
  rw[wrap64_of (x:=bt s 1) (by omega) (by omega)]
  refine ev_neg (by omega) (ev_pos (by omega) ?_)
  by_cases h3:bt s 1=(v:Int)
  case neg=>
    rw[show openv s v=(⟨#[]⟩,0,21)from(if_neg h0).trans ((if_neg (by simpa using h1)).trans ((if_neg h2).trans (if_pos h3)))]
    exact ev_neg h3 (Ev.some rfl)
  refine ev_pos h3 (Ev.bind (rtake_ev s hs 2 (by omega)) ?_)
  rcases hr:tnv s 2 with⟨n,tq,e⟩
  by_cases he:e=0
  case neg=>
    rw[show openv s v=(⟨#[]⟩,0,e)from(if_neg h0).trans ((if_neg (by simpa using h1)).trans ((if_neg h2).trans ((if_neg (by simpa using h3)).trans (by rw[hr];exact if_pos he))))]
    exact ev_neg he (Ev.some rfl)
  have ho:openv s v=opend s n tq:=(if_neg h0).trans ((if_neg (by simpa using h1)).trans ((if_neg h2).trans ((if_neg (by simpa using h3)).trans (by rw[hr];exact if_neg (by simpa using he)))))
  rw[ho]
  obtain⟨m,t,rfl,rfl,g1,g2,g3,g4⟩:=tnv_back s 2 n tq e hr he
  refine ev_pos he ?_
  show Ev (fun k=> if(m:Int)> 30000 then _ else _) _
  by_cases h4:(m:Int)> 30000
  · rw[show opend s (m:Int) (t:Int)=(⟨#[]⟩,0,3)from if_pos h4]
    exact ev_pos h4 (Ev.some rfl)
  refine ev_neg h4 ?_
  show Ev (fun k=> if wrap64 ((s.size:Int) - (t:Int))< wrap64 (wrap64 (m:Int)+8)then _ else _) _
  rw[wrap64_of (x:=(m:Int)) (by omega) (by omega),wrap64_of (x:=(m:Int)+8) (by omega) (by omega),wrap64_of (x:=(s.size:Int) - (t:Int)) (by omega) (by omega)]
  by_cases h5:(m:Int)+8> (s.size:Int) - (t:Int)
  · rw[show opend s (m:Int) (t:Int)=(⟨#[]⟩,0,10)from(if_neg h4).trans (if_pos h5)]
    exact ev_pos (by omega) (Ev.some rfl)
  refine ev_neg (by omega) (ev_pos (show 0≤(t:Int)by omega) ?_)
  show Ev (fun k=> if(t:Int)≤wrap64 ((t:Int)+(m:Int))then(if wrap64 ((t:Int)+(m:Int))≤(s.size:Int)then _ else _)else _) _
  rw[wrap64_of (x:=(t:Int)+(m:Int)) (by omega) (by omega),wrap64_of (x:=(t:Int)+(m:Int)+8) (by omega) (by omega)]
  refine ev_pos (by omega) (ev_pos (by omega) ?_)
  have e1:((t:Int)).toNat=t:=by omega
  have e2:((t:Int)+(m:Int)).toNat=t+m:=by omega
  have e3:((t:Int)+(m:Int)+8).toNat=t+m+8:=by omega
  have hbs:(s.extract t (t+m)).size=m:=by rw[size_eq_length,data_extract,Nat.add_sub_cancel_left,List.length_take,List.length_drop,← size_eq_length];omega
  rw[show s.extract ((t:Int)).toNat ((t:Int)+(m:Int)).toNat=s.extract t (t+m)by rw[e1,e2]]
  refine Ev.bind (rseal_ev v hv (s.extract t (t+m)) (by omega)) ?_
  rw[show sealv v (s.extract t (t+m))=(ba (sealL v (s.extract t (t+m))),0)from if_neg (by omega)]
  refine ev_pos (by omega) (ev_pos (by omega) ?_)
  have hh:=head_take s v hv (by omega) h1 h3 m t (by omega) g3 g4
  have hseal:sealL v (s.extract t (t+m))=s.data.toList.take (t+m)++eightL (sumL (s.data.toList.take (t+m))):=by unfold sealL;rw[← hh]
  have htk:(s.extract 0 ((t:Int)+(m:Int)+8).toNat).toList=s.data.toList.take (t+m)++(s.data.toList.drop (t+m)).take 8:=by
    rw[toL,data_extract,e3,List.drop_zero,Nat.sub_zero,List.take_add]
  rw[htk,toL,ba_data,hseal]
  by_cases h6:eightL (sumL (s.data.toList.take (t+m)))=(s.data.toList.drop (t+m)).take 8
  · have ho2:opend s (m:Int) (t:Int)=(s.extract ((t:Int)).toNat ((t:Int)+(m:Int)).toNat,(t:Int)+(m:Int)+8,0):=(if_neg h4).trans ((if_neg h5).trans (if_pos (by rw[e2];exact h6)))
    rw[ho2]
    refine ev_pos (by rw[h6]) (Ev.some ?_)
    rw[ba_size,List.length_append,eight_len,List.length_take,← size_eq_length,Nat.min_eq_left (by omega),e1,e2,wrap64_of (by omega) (by omega)]
    congr 2
    omega
  · have ho2:opend s (m:Int) (t:Int)=(⟨#[]⟩,0,22):=(if_neg h4).trans ((if_neg h5).trans (if_neg (by rw[e2];exact h6)))
    rw[ho2]
    exact ev_neg (fun h=> h6 (List.append_cancel_left h)) (Ev.some rfl)
end Go.Proofs.YtlaeihdldofkcaaGreatDoor.NK

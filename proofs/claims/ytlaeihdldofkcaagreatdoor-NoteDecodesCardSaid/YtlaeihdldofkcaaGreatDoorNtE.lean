/- Frames laid and read: what is read is what was laid, and stood so. -/
import Derived.Test.YtlaeihdldofkcaaGreatDoorNtD
import Derived.Test.YtlaeihdldofkcaaGreatDoorNtZ
import Derived.Test.YtlaeihdldofkcaaGreatDoorPMx3
import Derived.Test.YtlaeihdldofkcaaGreatDoorPMx5
namespace Go.Proofs.YtlaeihdldofkcaaGreatDoor.NE
open Go.RowKit Go.Proofs.YtlaeihdldofkcaaGreatDoorW.PrintWords Go.Proofs.YtlaeihdldofkcaaGreatDoor.B Go.Proofs.YtlaeihdldofkcaaGreatDoor.PN Go.Proofs.YtlaeihdldofkcaaGreatDoor.IA Go.Proofs.YtlaeihdldofkcaaGreatDoor.IB Go.Proofs.YtlaeihdldofkcaaGreatDoor.IC Go.Proofs.YtlaeihdldofkcaaGreatDoor.ND Go.Proofs.YtlaeihdldofkcaaGreatDoor.NN
open Go.Proofs.YtlaeihdldofkcaaGreatDoor.NK (numL numL_le number_ev textL text_ev tnv take_ev tnv_of tnv_back txv ttext_ev txv_of txv_back txv_bad sealL sealv seal_ev openv open_ev open_of open_back textL_len)
open Go.Proofs.YtlaeihdldofkcaaGreatDoor.IS (ba ba_data ba_size ba_app shv_yes showL ishow_ev)
open Go.Proofs.YtlaeihdldofkcaaGreatDoor.IP (show_len ipv iparse_ev ipv_sound ipv_complete)
set_option linter.unusedSimpArgs false
set_option linter.unusedVariables false
structure Fr where
  f:Int
  t:Int
  e:Int
  q:Int
  ae:Int
  ak:Int
  a0:Int
  a1:Int
  a2:Int
  l:List S46
  s:ByteArray
  a5:Int
def ok (x:Fr):Prop:=okF x.f x.t x.e x.q x.ae x.ak x.a0 x.a1 x.a2 x.l x.s x.a5
instance (x:Fr):Decidable (ok x):=by unfold ok;exact inferInstance
def noteL (x:Fr):List UInt8:=numL x.a0.toNat++(textL (ba (showL x.a1 x.a2 x.l))++(textL x.s++(numL x.a5.toNat++[])))
def bodyL (x:Fr):List UInt8:=numL x.f.toNat++(numL x.t.toNat++(numL x.e.toNat++(numL x.q.toNat++(numL x.ae.toNat++(numL x.ak.toNat++(if x.q=0 then[]else noteL x))))))
def wire (x:Fr):ByteArray:=ba (sealL 1 (ba (bodyL x)))
def encv (x:Fr):ByteArray×Int:=if ok x then(wire x,0)else(⟨#[]⟩,130)
theorem enc_no {x:Fr} (h:¬ ok x):encv x=(⟨#[]⟩,130):=if_neg h
theorem enc_yes {x:Fr} (h:ok x):encv x=(wire x,0):=if_pos h
/-- What a frame that may be is bound by. -/
theorem ok_num {x:Fr} (h:ok x):(0≤x.f∧x.f≤1000000000)∧(0≤x.t∧x.t≤1000000000)∧(0≤x.e∧x.e≤1000000000)∧(0≤x.q∧x.q≤1000000000)∧(0≤x.ae∧x.ae≤1000000000)∧(0≤x.ak∧x.ak≤1000000000):=by
  have:=h.1
  unfold okH at this
  omega
theorem okN_size {a0 a1 a2:Int} {l:List S46} {s:ByteArray} {a5:Int} (h:okN a0 a1 a2 l s a5):s.size≤16:=by
  have:=h.2.2.2.2.1
  split at this
  · exact(nameB_size this).2
  · omega
theorem okN_why {a0 a1 a2:Int} {l:List S46} {s:ByteArray} {a5:Int} (h:okN a0 a1 a2 l s a5):0≤a5∧a5≤9:=by
  have:=h.2.2.2.2.2
  split at this<;> omega
theorem ok_N {x:Fr} (h:ok x) (hq:x.q≠0):okN x.a0 x.a1 x.a2 x.l x.s x.a5:=okF_N h hq
theorem ok_0 {x:Fr} (h:ok x) (hq:x.q=0):emptyN x.a0 x.a1 x.a2 x.l x.s x.a5:=by
  have:=h.2
  rw[if_pos hq]at this
  exact this
theorem numL_le' (n:Int) (h0:0≤n) (h:n≤1000000000):(numL n.toNat).length≤10:=numL_le _ (by omega)
theorem body_len {x:Fr} (h:ok x):(bodyL x).length≤300:=by
  obtain⟨h1,h2,h3,h4,h5,h6⟩:=ok_num h
  have e1:=numL_le' _ h1.1 h1.2
  have e2:=numL_le' _ h2.1 h2.2
  have e3:=numL_le' _ h3.1 h3.2
  have e4:=numL_le' _ h4.1 h4.2
  have e5:=numL_le' _ h5.1 h5.2
  have e6:=numL_le' _ h6.1 h6.2
  have e7:(if x.q=0 then[]else noteL x).length≤200:=by
    split
    · exact Nat.zero_le _
    · rename_i hq
      have hn:=ok_N h hq
      have hw:=okN_why hn
      have hz:=okN_size hn
      have k1:=hn.1
      have k2:=hn.2.1
      have hs:=show_len hn.2.2.1
      have f1:=numL_le' x.a0 (by omega) (by omega)
      have f2:=numL_le' x.a5 (by omega) (by omega)
      have hb:=ba_size (showL x.a1 x.a2 x.l)
      obtain⟨t1,t2⟩:=textL_len (ba (showL x.a1 x.a2 x.l)) (by omega)
      obtain⟨t3,t4⟩:=textL_len x.s (by omega)
      unfold noteL
      simp only[List.length_append,List.length_nil]
      omega
  unfold bodyL
  simp only[List.length_append]
  omega
/-! ### laid -/
theorem u64_wrap (n:Int) (h0:0≤n) (h:n≤1000000000):IntKind.u64.wrap n=(n.toNat:Int):=by
  unfold IntKind.wrap
  simp[IntKind.bits,IntKind.signed]
  omega
theorem putn_ev (x:List UInt8) (hx:x.length≤10000) (n:Int) (h0:0≤n) (h:n≤1000000000):Ev (fun k=> note_Encode.putn k (ba x) n) (ba (x++numL n.toNat)):=by
  unfold note_Encode.putn
  rw[u64_wrap n h0 h]
  have:=numL_le' n h0 h
  refine Ev.bind (number_ev n.toNat (by omega)) (ev_pos (by rw[ba_size,ba_size];omega) (Ev.some ?_))
  rw[ba_app]
theorem puts_ev:∀ (l:List Int) (x:List UInt8),(∀ n ∈ l,0≤n∧n≤1000000000)→x.length+10 * l.length≤10000→Ev (fun k=> note_Encode.puts k (ba x) l) (ba (x++l.flatMap fun n=> numL n.toNat))
  |[],x,h,hx=> Ev.some (by simp)
  |n :: l,x,h,hx=> by
    obtain⟨h0,h1⟩:=h n (List.mem_cons_self ..)
    have:=numL_le' n h0 h1
    rw[List.length_cons]at hx
    have ih:=puts_ev l (x++numL n.toNat) (fun m hm=> h m (List.mem_cons_of_mem _ hm)) (by rw[List.length_append];omega)
    rw[List.append_assoc]at ih
    exact Ev.bind (putn_ev x (by omega) n h0 h1) ih
theorem seal1 {x:Fr} (h:ok x) (s:ByteArray) (hs:s=ba (bodyL x)):Ev (fun k=> seal_Seal.f k 1 s) (encv x):=by
  have hb:=body_len h
  have hz:=ba_size (bodyL x)
  have:=seal_ev 1 (by decide) (ba (bodyL x)) (by omega)
  rw[show sealv 1 (ba (bodyL x))=encv x from(if_neg (by omega)).trans (enc_yes h).symm]at this
  rw[hs]
  exact this
theorem encode_ev (x:Fr) (hl:x.l.length≤9223372036854775807):Ev (fun k=> note_Encode.f k x.f x.t x.e x.q x.ae x.ak x.a0 x.a1 x.a2 x.l x.s x.a5) (encv x):=by
  unfold note_Encode.f
  refine Ev.bind (frame_ev x.f x.t x.e x.q x.ae x.ak x.a0 x.a1 x.a2 x.l x.s x.a5 hl) ?_
  by_cases h:ok x
  case neg=>
    rw[enc_no h,show frv x.f x.t x.e x.q x.ae x.ak x.a0 x.a1 x.a2 x.l x.s x.a5=130 from if_neg h]
    exact ev_neg (by decide) (Ev.some rfl)
  obtain⟨h1,h2,h3,h4,h5,h6⟩:=ok_num h
  have hp:=puts_ev [x.f,x.t,x.e,x.q,x.ae,x.ak] [] (by
    intro n hn
    simp only[List.mem_cons,List.not_mem_nil,or_false]at hn
    rcases hn with rfl|rfl|rfl|rfl|rfl|rfl<;> assumption) (by simp)
  refine ev_pos (frv0.2 h) (Ev.bind hp ?_)
  have hb:=body_len h
  by_cases hq:x.q=0
  · refine ev_neg (by omega) (seal1 h _ ?_)
    congr 1
    unfold bodyL
    rw[if_pos hq]
    simp
  · refine ev_pos (by omega) ?_
    have hn:=ok_N h hq
    have hw:=okN_why hn
    have hz:=okN_size hn
    have k1:=hn.1
    have k2:=hn.2.1
    have hs:=show_len hn.2.2.1
    have hbs:=ba_size (showL x.a1 x.a2 x.l)
    have f1:=numL_le' x.a0 (by omega) (by omega)
    obtain⟨t1,t2⟩:=textL_len (ba (showL x.a1 x.a2 x.l)) (by omega)
    obtain⟨t3,t4⟩:=textL_len x.s (by omega)
    have hsh:=ishow_ev x.a1 x.a2 x.l
    rw[shv_yes hn.2.2.1]at hsh
    unfold bodyL at hb
    rw[if_neg hq]at hb
    unfold noteL at hb
    simp only[List.length_append,List.length_nil]at hb
    refine Ev.bind hsh (Ev.bind (putn_ev _ (by simp only[List.nil_append,List.flatMap_cons,List.flatMap_nil,List.length_append,List.length_nil];omega) x.a0 (by omega) (by omega)) (Ev.bind (text_ev (ba (showL x.a1 x.a2 x.l)) (by omega)) (Ev.bind (text_ev x.s (by omega)) ?_)))
    rw[ba_app,ba_app,ba_size,ba_size,ba_size]
    refine ev_pos ⟨by omega,by simp only[List.nil_append,List.flatMap_cons,List.flatMap_nil,List.length_append,List.length_nil];omega⟩ ?_
    refine Ev.bind (putn_ev _ (by simp only[List.nil_append,List.flatMap_cons,List.flatMap_nil,List.length_append,List.length_nil];omega) x.a5 (by omega) (by omega)) (seal1 h _ ?_)
    congr 1
    unfold bodyL
    rw[if_neg hq]
    unfold noteL
    simp
/-! ### read -/
theorem num_step (s:ByteArray) (hs:s.size≤1000000) (at_:Nat) (hat:at_≤s.size) (bad:Bool):∃ (n q:Nat) (b:Bool),Ev (fun k=> note_place_number.f k s (at_:Int) bad) ((n:Int),s,(q:Int),b)∧q≤s.size∧n≤1000000000∧
    (b=false→bad=false∧s.data.toList.drop at_=numL n++s.data.toList.drop q)∧
    (∀ m rest,bad=false→m≤1000000000→s.data.toList.drop at_=numL m++rest→n=m∧b=false∧s.data.toList.drop q=rest):=by
  unfold note_place_number.f
  have ht:=take_ev s hs at_ hat
  cases bad
  case true=> exact⟨0,at_,true,Ev.bind ht (ev_pos rfl (Ev.some rfl)),hat,by omega,(fun h=> by cases h),(fun m rest h=> by cases h)⟩
  rcases hr:tnv s at_ with⟨v,tq,e⟩
  rw[hr]at ht
  by_cases he:e=0
  case neg=>
    refine⟨0,at_,true,Ev.bind ht (ev_neg (by decide) (ev_neg he (Ev.some rfl))),hat,by omega,(fun h=> by cases h),?_⟩
    intro m rest _ hm h
    have:=tnv_of s at_ m rest (by omega) h
    rw[hr]at this
    simp only[Prod.mk.injEq]at this
    exact absurd this.2.2 he
  obtain⟨m,t,rfl,rfl,g1,g2,g3,g4⟩:=tnv_back s at_ v tq e hr he
  by_cases hm:m≤1000000000
  · refine⟨m,t,false,Ev.bind ht (ev_neg (by decide) (ev_pos he (ev_neg (show ¬ (m:Int)> 1000000000 by omega) (Ev.some ?_)))),g2,hm,(fun _=> ⟨rfl,g3⟩),?_⟩
    · show(wrap64 (m:Int),s,(t:Int),false)=_
      rw[wrap64_of (by omega) (by omega)]
    · intro m' rest _ hm' h
      have:=tnv_of s at_ m' rest (by omega) h
      rw[hr]at this
      simp only[Prod.mk.injEq]at this
      have e1:m=m':=by omega
      refine⟨e1,rfl,?_⟩
      rw[g3,e1]at h
      exact List.append_cancel_left h
  · refine⟨0,at_,true,Ev.bind ht (ev_neg (by decide) (ev_pos he (ev_pos (show(m:Int)> 1000000000 by omega) (Ev.some rfl)))),hat,by omega,(fun h=> by cases h),?_⟩
    intro m' rest _ hm' h
    have:=tnv_of s at_ m' rest (by omega) h
    rw[hr]at this
    simp only[Prod.mk.injEq]at this
    omega
theorem text_step (s:ByteArray) (hs:s.size≤1000000) (at_:Nat) (hat:at_≤s.size) (bad:Bool):∃ (t:ByteArray) (q:Nat) (b:Bool),Ev (fun k=> note_place_text.f k s (at_:Int) bad) (t,s,(q:Int),b)∧q≤s.size∧
    (b=false→bad=false∧s.data.toList.drop at_=textL t++s.data.toList.drop q)∧
    (∀ t' rest,bad=false→t'.size≤1000000→s.data.toList.drop at_=textL t'++rest→t=t'∧b=false∧s.data.toList.drop q=rest):=by
  unfold note_place_text.f
  have ht:=ttext_ev s hs at_ hat
  cases bad
  case true=> exact⟨⟨#[]⟩,at_,true,Ev.bind ht (ev_pos rfl (Ev.some rfl)),hat,(fun h=> by cases h),(fun m rest h=> by cases h)⟩
  rcases hr:txv s at_ with⟨v,tq,e⟩
  rw[hr]at ht
  by_cases he:e=0
  case neg=>
    refine⟨⟨#[]⟩,at_,true,Ev.bind ht (ev_neg (by decide) (ev_neg he (Ev.some rfl))),hat,(fun h=> by cases h),?_⟩
    intro m rest _ hm h
    have:=txv_of s at_ m rest hm h hat
    rw[hr]at this
    simp only[Prod.mk.injEq]at this
    exact absurd this.2.2 he
  obtain⟨t,rfl,g1,g2,g3,g4⟩:=txv_back s at_ v tq e hr he
  refine⟨v,t,false,Ev.bind ht (ev_neg (by decide) (ev_pos he (Ev.some rfl))),g2,(fun _=> ⟨rfl,g3⟩),?_⟩
  intro m' rest _ hm' h
  have:=txv_of s at_ m' rest hm' h hat
  rw[hr]at this
  simp only[Prod.mk.injEq]at this
  refine⟨this.1,rfl,?_⟩
  rw[g3,this.1]at h
  exact List.append_cancel_left h
end Go.Proofs.YtlaeihdldofkcaaGreatDoor.NE

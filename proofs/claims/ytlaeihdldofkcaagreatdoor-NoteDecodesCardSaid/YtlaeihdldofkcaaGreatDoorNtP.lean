/- Ids, read: the program's reading answers an id exactly where the text is what writing that id answers. -/
import Derived.Test.YtlaeihdldofkcaaGreatDoorNtS
import Derived.Test.YtlaeihdldofkcaaGreatDoorPMx3
import Derived.Lib.SplitLaws
import Derived.Lib.AtoiAll
namespace Go.Proofs.YtlaeihdldofkcaaGreatDoor.IP
open Go.RowKit Go.Proofs.YtlaeihdldofkcaaGreatDoorW.PrintWords Go.Proofs.YtlaeihdldofkcaaGreatDoor.B Go.Proofs.YtlaeihdldofkcaaGreatDoor.PN Go.Proofs.YtlaeihdldofkcaaGreatDoor.IA Go.Proofs.YtlaeihdldofkcaaGreatDoor.IB Go.Proofs.YtlaeihdldofkcaaGreatDoor.IS
set_option linter.unusedSimpArgs false
set_option linter.unusedVariables false
/-! ### decimal digits -/
theorem ofNat48 (m:Nat) (h:m< 10):(UInt8.ofNat (48+m)).toNat=48+m:=by
  have:∀ m:Fin 10,(UInt8.ofNat (48+m.val)).toNat=48+m.val:=by decide+kernel
  exact this ⟨m,h⟩
theorem dec_dig:∀ (u:Nat),∀ c ∈ Lib.decDigits u,48≤c.toNat∧c.toNat≤57:=by
  intro u
  induction u using Nat.strongRecOn with
  |ind u ih=>
    intro c hc
    by_cases h:u< 10
    · rw[Lib.decDigits_one h,List.mem_singleton]at hc
      subst hc
      rw[ofNat48 u h];omega
    · rw[Lib.decDigits,dif_neg h,List.mem_append,List.mem_singleton]at hc
      rcases hc with hc|hc
      · exact ih (u / 10) (by omega) c hc
      · subst hc
        rw[ofNat48 _ (by omega)];omega
theorem dec_len (u:Nat):1≤(Lib.decDigits u).length:=by rw[Lib.decDigits_length];exact Lib.nDigits_pos u
theorem dec_not (u:Nat) (c:UInt8) (h:c.toNat< 48 ∨ 57< c.toNat):c ∉ Lib.decDigits u:=fun hc=> by have:=dec_dig u c hc;omega
theorem parse_dec:∀ (u:Nat),u≤999999→∀ r,Lib.parseUint10 0 (Lib.decDigits u++r)=Lib.parseUint10 u r:=by
  intro u
  induction u using Nat.strongRecOn with
  |ind u ih=>
    intro hu r
    by_cases h:u< 10
    · rw[Lib.decDigits_one h,List.singleton_append,Lib.parseUint10,ofNat48 u h,if_pos (by omega),if_neg (by omega),if_neg (by omega)]
      congr 1;omega
    · rw[Lib.decDigits,dif_neg h,List.append_assoc,ih (u / 10) (by omega) (by omega),List.singleton_append,Lib.parseUint10,ofNat48 _ (by omega),if_pos (by omega),if_neg (by omega),if_neg (by omega)]
      congr 1;omega
theorem atoi_dec (u:Nat) (hu:u≤999999):Lib.atoiAll (Lib.decDigits u)=.ok (u:Int):=by
  have h1:=dec_len u
  have h2:=dec_dig u
  have h3:=parse_dec u hu []
  rw[List.append_nil]at h3
  revert h1 h2 h3
  generalize Lib.decDigits u=l
  intro h1 h2 h3
  match l,h1 with
  |c :: r,_=>
    have hc:=h2 c (List.mem_cons_self ..)
    have hp:Lib.parseMag (c :: r)=.ok u:=by
      unfold Lib.parseMag
      rw[if_neg (by simp),h3]
      rfl
    unfold Lib.atoiAll
    simp only
    rw[if_neg (by omega:¬ (c.toNat=43 ∨ c.toNat=45)),hp]
    simp only
    rw[if_neg (by omega),if_neg (by omega),if_neg (by omega)]
theorem itoa_dec {n:Int} (h0:0≤n):Lib.itoa n=Lib.decDigits n.toNat:=by
  obtain⟨m,rfl⟩:=Int.eq_ofNat_of_zero_le h0
  exact itoa_nat m
/-! ### the first byte of a kind -/
theorem ix_hit:∀ (p:List UInt8) (c:UInt8) (r:List UInt8),c ∉ p→Lib.indexByte (p++c :: r) c=p.length
  |[],c,r,_=> by simp[Lib.indexByte]
  |b :: p,c,r,h=> by
    have hb:b≠c:=fun e=> h (by rw[e];exact List.mem_cons_self ..)
    have ih:=ix_hit p c r (fun h'=> h (List.mem_cons_of_mem _ h'))
    rw[List.cons_append,Lib.indexByte,ih,if_neg (by simpa using hb),if_neg (by first|(simp;done)|(simp;omega)),List.length_cons]
    omega
theorem ix_le:∀ (p:List UInt8) (c:UInt8),Lib.indexByte p c< p.length ∨ Lib.indexByte p c=-1
  |[],c=> Or.inr rfl
  |b :: p,c=> by
    rw[Lib.indexByte]
    split
    · left;rw[List.length_cons];omega
    · split
      · exact Or.inr rfl
      · rename_i h1 h2
        have:=ix_le p c
        rcases this with h|h
        · left;rw[List.length_cons];omega
        · exact absurd (by rw[h];rfl) h2
/-! ### two numbers with a sign between -/
def cutv (p:ByteArray) (c:UInt8):ByteArray×ByteArray×Bool:=if Lib.indexByte p.data.toList c≥0 then(p.extract 0 (Lib.indexByte p.data.toList c).toNat,p.extract ((Lib.indexByte p.data.toList c).toNat+1) p.size,true)else(p,⟨#[]⟩,false)
theorem cutv_yes {p:ByteArray} {c:UInt8} (h:Lib.indexByte p.data.toList c≥0):cutv p c=(p.extract 0 (Lib.indexByte p.data.toList c).toNat,p.extract ((Lib.indexByte p.data.toList c).toNat+1) p.size,true):=if_pos h
theorem cutv_no {p:ByteArray} {c:UInt8} (h:¬ Lib.indexByte p.data.toList c≥0):cutv p c=(p,⟨#[]⟩,false):=if_neg h
theorem bt0 (c:UInt8):bt (⟨#[c]⟩:ByteArray) 0=(c.toNat:Int):=by
  have:=bt_get (⟨#[c]⟩:ByteArray) 0 (by simp)
  simpa using this
theorem u8_of (c:UInt8):((c.toNat:Int).toNat).toUInt8=c:=by
  rw[Int.toNat_natCast];exact UInt8.ofNat_toNat
theorem index_ev (p:ByteArray) (c:UInt8):Ev (fun k=> stringslite_Index.f k p (⟨#[c]⟩:ByteArray)) (Lib.indexByte p.data.toList c):=by
  unfold stringslite_Index.f
  have h1:((⟨#[c]⟩:ByteArray).size:Int)=1:=rfl
  rw[h1]
  refine ev_neg (by decide) ?_
  refine Ev.step (fun k=> by rw[stringslite_Index.j0]) ?_
  by_cases h:(⟨#[c]⟩:ByteArray)=p
  · subst h
    refine ev_pos (by simp) (Ev.some ?_)
    simp[Lib.indexByte]
  · refine ev_neg (fun h'=> h (toList_inj.1 (eq_of_beq h'))) ?_
    refine ev_pos rfl ?_
    refine ev_pos (by rw[h1];decide) ?_
    refine ev_bind0 (a:=Lib.indexByte p.data.toList c) ?_ (Ev.some rfl)
    unfold stringslite_IndexByte.f xt_indexByte
    rw[bt0,u8_of]
theorem cut_ev (p:ByteArray) (c:UInt8) (hp:p.size≤1000):Ev (fun k=> strings_Cut.f k p (⟨#[c]⟩:ByteArray)) (cutv p c):=by
  have hlen:p.data.toList.length=p.size:=(size_eq_length p).symm
  unfold strings_Cut.f
  refine Ev.bind (a:=cutv p c) ?_ (Ev.some rfl)
  unfold stringslite_Cut.f
  refine Ev.bind (index_ev p c) ?_
  have h1:((⟨#[c]⟩:ByteArray).size:Int)=1:=rfl
  rw[h1]
  have hl:=ix_le p.data.toList c
  by_cases h:Lib.indexByte p.data.toList c≥0
  · rw[cutv_yes h]
    generalize Lib.indexByte p.data.toList c=i at *
    have hi:i< p.size:=by omega
    have e:(i+1).toNat=i.toNat+1:=by omega
    rw[wrap64_of (by omega) (by omega),e]
    refine ev_pos h ?_
    refine ev_pos h ?_
    refine ev_pos (by omega) ?_
    refine ev_pos (by omega) ?_
    exact ev_pos (by omega) (Ev.some rfl)
  · rw[cutv_no h]
    exact ev_neg h (Ev.some rfl)
def prv (p:ByteArray) (c:UInt8):Int×Int:=ident_pair.pairR (cutv p c).1 (cutv p c).2.1
theorem pair_ev (p:ByteArray) (c:UInt8) (hp:p.size≤1000):Ev (fun k=> ident_pair.f k p (⟨#[c]⟩:ByteArray)) (prv p c):=by
  unfold ident_pair.f
  refine Ev.bind (cut_ev p c hp) ?_
  have h:(cutv p c).1.size≤281474976710656∧(cutv p c).2.1.size≤281474976710656:=by
    unfold cutv
    split
    · simp only[ByteArray.size_extract];omega
    · exact⟨by simp only;omega,by show(0:Nat)≤_;omega⟩
  simp only[if_pos h]
  exact Ev.some rfl
theorem prv_of (p:ByteArray) (c:UInt8) (hc:c.toNat< 48 ∨ 57< c.toNat) (x y:Int) (hx:0≤x) (hx2:x≤999999) (hy:0≤y) (hy2:y≤999999) (h:p.data.toList=Lib.itoa x++c :: Lib.itoa y):prv p c=(x,y):=by
  rw[itoa_dec hx,itoa_dec hy]at h
  have hi:Lib.indexByte p.data.toList c=((Lib.decDigits x.toNat).length:Int):=by
    rw[h];exact ix_hit _ c _ (dec_not _ c hc)
  unfold prv cutv
  rw[hi,if_pos (by omega),Int.toNat_natCast]
  have e1:ident_pair.atoiR (p.extract 0 (Lib.decDigits x.toNat).length)=some x:=by
    unfold ident_pair.atoiR
    rw[data_extract,h,List.drop_zero,Nat.sub_zero,List.take_left' rfl,atoi_dec _ (by omega)]
    simp only;congr 1;omega
  have e2:ident_pair.atoiR (p.extract ((Lib.decDigits x.toNat).length+1) p.size)=some y:=by
    unfold ident_pair.atoiR
    rw[data_extract,h,← List.drop_drop,List.drop_left' rfl,List.drop_succ_cons,List.drop_zero,List.take_of_length_le (by rw[size_eq_length,h,List.length_append,List.length_cons];omega),atoi_dec _ (by omega)]
    simp only;congr 1;omega
  unfold ident_pair.pairR
  rw[e1,e2]
/-! ### the pieces between strokes -/
def parts (s:ByteArray):List ByteArray:=Lib.splitB (⟨#[47]⟩:ByteArray) 0 (Lib.countB s (⟨#[47]⟩:ByteArray)) s
theorem split_small:∀ (k:Nat) (s:ByteArray) (m:Nat),s.size≤m→∀ p ∈ Lib.splitB (⟨#[47]⟩:ByteArray) 0 k s,p.size≤m
  |0,s,m,h,p,hp=> by
    rw[Lib.splitB,List.mem_singleton]at hp
    subst hp;exact h
  |k+1,s,m,h,p,hp=> by
    rw[Lib.splitB]at hp
    split at hp
    · rw[List.mem_singleton]at hp;subst hp;exact h
    · rcases List.mem_cons.1 hp with rfl|hp
      · rw[ByteArray.size_extract];omega
      · exact split_small k _ m (by rw[ByteArray.size_extract];omega) p hp
theorem splitK_join:∀ (ps:List (List UInt8)) (p0:List UInt8),47 ∉ p0→(∀ p ∈ ps,47 ∉ p)→Lib.splitK [47] 0 ps.length (p0++ps.flatMap fun p=> 47 :: p)=p0 :: ps
  |[],p0,_,_=> by simp[Lib.splitK]
  |p :: ps,p0,h0,h=> by
    have ih:=splitK_join ps p (h p (List.mem_cons_self ..)) (fun q hq=> h q (List.mem_cons_of_mem _ hq))
    have hi:Lib.index (p0++(p :: ps).flatMap fun p=> 47 :: p) [47]=(p0.length:Int):=by
      rw[Lib.index_one,List.flatMap_cons,List.cons_append]
      exact ix_hit p0 47 _ h0
    rw[List.length_cons,Lib.splitK,hi,if_neg (by first|(simp;done)|(simp;omega)),Int.toNat_natCast,Nat.add_zero,List.take_left' rfl]
    congr 1
    have e:(p0++(p :: ps).flatMap fun p=> 47 :: p).drop (p0.length+([47]:List UInt8).length)=p++ps.flatMap fun p=> 47 :: p:=by
      rw[← List.drop_drop,List.drop_left' rfl,List.flatMap_cons,List.cons_append]
      rfl
    rw[e]
    exact ih
theorem count_join:∀ (ps:List (List UInt8)) (p0:List UInt8),47 ∉ p0→(∀ p ∈ ps,47 ∉ p)→Lib.count (p0++ps.flatMap fun p=> 47 :: p) [47]=ps.length:=by
  intro ps p0 h0 h
  rw[Lib.count_one,List.count_append,List.count_eq_zero.2 h0,Nat.zero_add]
  clear h0
  induction ps with
  |nil=> rfl
  |cons p ps ih=>
    rw[List.flatMap_cons,List.cons_append,List.count_cons_self,List.count_append,List.count_eq_zero.2 (h p (List.mem_cons_self ..)),ih (fun q hq=> h q (List.mem_cons_of_mem _ hq)),List.length_cons]
    omega
/-! ### the whole -/
def fin (s:ByteArray) (a b:Int) (l:List S46):Int×Int×List S46×Int:=if good a b l=true∧showL a b l=s.data.toList then(a,b,l,0)else(0,0,[],30)
theorem fin_yes {s:ByteArray} {a b:Int} {l:List S46} (h:good a b l=true) (h2:showL a b l=s.data.toList):fin s a b l=(a,b,l,0):=if_pos ⟨h,h2⟩
theorem fin_no {s:ByteArray} {a b:Int} {l:List S46} (h:¬ (good a b l=true∧showL a b l=s.data.toList)):fin s a b l=(0,0,[],30):=if_neg h
def hopOf (p:ByteArray):S46:=⟨(prv p 64).1,(prv p 64).2⟩
theorem rd_bytes (l:List ByteArray) (i:Nat) (h:i< l.length):rdOf ByteArray.empty l (i:Int)=l[i]:=by
  unfold rdOf
  rw[Int.toNat_natCast,List.getD_eq_getElem?_getD,List.getElem?_eq_getElem h]
  rfl
theorem parse_loop (s:ByteArray) (ys:List ByteArray) (hy:ys.length≤1000) (hz:∀ p ∈ ys,p.size≤1000) (a b:Int):∀ (d i:Nat) (acc:List S46),ys.length - i=d→i≤ys.length→acc.length=i→
    Ev (fun k=> ident_Parse.l0 k s ys (ys.length:Int) (i:Int) a b acc) (fin s a b (acc++(ys.drop i).map hopOf))
  |0,i,acc,hd,hi,ha=> by
    rw[List.drop_of_length_le (by omega),List.map_nil,List.append_nil]
    refine Ev.step (fun k=> by rw[ident_Parse.l0]) ?_
    refine ev_neg (by omega) ?_
    refine Ev.bind (ishow_ev a b acc) ?_
    by_cases h:good a b acc=true
    · rw[shv_yes h]
      refine ev_pos rfl ?_
      by_cases h2:showL a b acc=s.data.toList
      · rw[fin_yes h h2]
        refine ev_pos ?_ (Ev.some rfl)
        show(ba (showL a b acc)).toList=s.toList
        rw[h2,ba_of]
      · rw[fin_no (fun h'=> h2 h'.2)]
        refine ev_neg (fun h'=> h2 ?_) (Ev.some rfl)
        have:=toList_inj.1 h'
        rw[← this]
        exact(ba_data _).symm
    · rw[shv_no h,fin_no (fun h'=> h h'.1)]
      exact ev_neg (by decide) (Ev.some rfl)
  |d+1,i,acc,hd,hi,ha=> by
    have hlt:i< ys.length:=by omega
    have ih:=parse_loop s ys hy hz a b d (i+1) (acc++[hopOf ys[i]]) (by omega) (by omega) (by rw[List.length_append];simp only[List.length_cons,List.length_nil];omega)
    rw[List.append_assoc,List.singleton_append,← List.map_cons,← List.drop_eq_getElem_cons hlt]at ih
    refine Ev.step (fun k=> by rw[ident_Parse.l0]) ?_
    rw[rd_bytes ys i hlt,w64 i (by omega)]
    refine ev_pos (by omega) ?_
    refine ev_pos (by omega) ?_
    refine ev_pos (by omega) ?_
    refine Ev.bind (pair_ev ys[i] 64 (hz _ (List.getElem_mem hlt))) ?_
    exact ev_pos (by omega) ih
/-- What reading answers. -/
def ipv (s:ByteArray):Int×Int×List S46×Int:=if s.size> 100 then(0,0,[],30)else fin s (prv (rdOf ByteArray.empty (parts s) 0) 46).1 (prv (rdOf ByteArray.empty (parts s) 0) 46).2 (((parts s).drop 1).map hopOf)
theorem iparse_ev (s:ByteArray):Ev (fun k=> ident_Parse.f k s) (ipv s):=by
  unfold ident_Parse.f ipv
  by_cases h:s.size> 100
  · rw[if_pos h]
    exact ev_pos (by omega) (Ev.some rfl)
  rw[if_neg h]
  have hn:(parts s).length=Lib.countB s (⟨#[47]⟩:ByteArray)+1:=Lib.splitB_all _ (by decide) 0 _ s rfl
  have hc:=Lib.countB_le (⟨#[47]⟩:ByteArray) (by decide) s.size s (Nat.le_refl _)
  have hz:∀ p ∈ parts s,p.size≤1000:=split_small _ s 1000 (by omega)
  refine ev_neg (by omega) ?_
  refine ev_bind0 (a:=parts s) ?_ ?_
  · unfold strings_Split.f
    rw[if_pos ⟨by omega,by decide⟩]
    rfl
  generalize parts s=ys at *
  refine ev_pos (by omega) ?_
  have h0:=rd_bytes ys 0 (by omega)
  rw[show((0:Nat):Int)=(0:Int)from rfl]at h0
  refine Ev.bind (pair_ev _ 46 (by rw[h0];exact hz _ (List.getElem_mem _))) ?_
  refine ev_pos (by omega) ?_
  refine ev_bind0 (a:=ys.drop 1) rfl ?_
  exact parse_loop s (ys.drop 1) (by rw[List.length_drop];omega) (fun p hp=> hz p (List.mem_of_mem_drop hp)) _ _ _ 0 [] rfl (Nat.zero_le _) rfl
theorem ipv_sound (s:ByteArray):ipv s=(0,0,[],30) ∨ ∃ a b l,good a b l=true∧showL a b l=s.data.toList∧ipv s=(a,b,l,0):=by
  unfold ipv
  split
  · exact Or.inl rfl
  · generalize (prv (rdOf ByteArray.empty (parts s) 0) 46).1=a
    generalize (prv (rdOf ByteArray.empty (parts s) 0) 46).2=b
    generalize ((parts s).drop 1).map hopOf=l
    by_cases h:good a b l=true∧showL a b l=s.data.toList
    · exact Or.inr ⟨a,b,l,h.1,h.2,fin_yes h.1 h.2⟩
    · exact Or.inl (fin_no h)
theorem show_len {a b:Int} {l:List S46} (h:good a b l=true):(showL a b l).length≤100:=by
  obtain⟨h1,h2,h3,h4,h5,h6⟩:=good_iff.1 h
  have n0:=itoa_len a h4 (by omega)
  have n1:=itoa_len b (by omega) h2
  have hf:∀ m:List S46,(∀ x ∈ m,0≤x.f0∧x.f0< 8∧0≤x.f1∧x.f1< 16)→(m.flatMap hopL).length≤14 * m.length:=by
    intro m
    induction m with
    |nil=> intro _;simp
    |cons x m ih=>
      intro hm
      have g:=hm x (List.mem_cons_self ..)
      have m0:=itoa_len x.f0 g.1 (by omega)
      have m1:=itoa_len x.f1 g.2.2.1 (by omega)
      have:=ih (fun y hy=> hm y (List.mem_cons_of_mem _ hy))
      have e:(hopL x).length=(Lib.itoa x.f0).length+((Lib.itoa x.f1).length+1)+1:=by
        unfold hopL
        simp only[List.length_cons,List.length_append]
      rw[List.flatMap_cons,List.length_append,List.length_cons,e]
      omega
  have:=hf l (good_hops h)
  unfold showL
  simp only[List.length_cons,List.length_append]
  omega
theorem not47 (n:Int) (h:0≤n):(47:UInt8) ∉ Lib.itoa n:=by rw[itoa_dec h];exact dec_not _ 47 (by decide)
theorem hops_of:∀ (ys:List ByteArray) (l:List S46),(∀ x ∈ l,0≤x.f0∧x.f0< 8∧0≤x.f1∧x.f1< 16)→ys.map (·.data.toList)=l.map (fun x=> Lib.itoa x.f0++64 :: Lib.itoa x.f1)→ys.map hopOf=l
  |[],[],_,_=> rfl
  |[],x :: l,_,h=> by simp at h
  |p :: ys,[],_,h=> by simp at h
  |p :: ys,x :: l,hg,h=> by
    simp only[List.map_cons,List.cons.injEq]at h
    have g:=hg x (List.mem_cons_self ..)
    rw[List.map_cons,hops_of ys l (fun y hy=> hg y (List.mem_cons_of_mem _ hy)) h.2]
    congr 1
    unfold hopOf
    rw[prv_of p 64 (by decide) x.f0 x.f1 g.1 (by omega) g.2.2.1 (by omega) h.1]
theorem ipv_complete (s:ByteArray) {a b:Int} {l:List S46} (h:good a b l=true) (hs:showL a b l=s.data.toList):ipv s=(a,b,l,0):=by
  obtain⟨h1,h2,h3,h4,h5,h6⟩:=good_iff.1 h
  have hg:=good_hops h
  have hn:=show_len h
  rw[hs,← size_eq_length]at hn
  unfold ipv
  rw[if_neg (by omega)]
  have hp0:(47:UInt8) ∉ Lib.itoa a++46 :: Lib.itoa b:=by
    simp only[List.mem_append,List.mem_cons,not_or]
    exact⟨not47 a h4,by decide,not47 b (by omega)⟩
  have hps:∀ p ∈ l.map (fun x=> Lib.itoa x.f0++64 :: Lib.itoa x.f1),(47:UInt8) ∉ p:=by
    intro p hp
    obtain⟨x,hx,rfl⟩:=List.mem_map.1 hp
    have g:=hg x hx
    simp only[List.mem_append,List.mem_cons,not_or]
    exact⟨not47 _ g.1,by decide,not47 _ g.2.2.1⟩
  have hj:s.data.toList=(Lib.itoa a++46 :: Lib.itoa b)++(l.map (fun x=> Lib.itoa x.f0++64 :: Lib.itoa x.f1)).flatMap fun p=> 47 :: p:=by
    rw[← hs,List.flatMap_map]
    unfold showL hopL
    simp
  have hd:(parts s).map (·.data.toList)=(Lib.itoa a++46 :: Lib.itoa b) :: l.map (fun x=> Lib.itoa x.f0++64 :: Lib.itoa x.f1):=by
    unfold parts
    rw[Lib.splitB_data]
    show Lib.splitK [47] 0 (Lib.count s.data.toList [47]) s.data.toList=_
    rw[hj,count_join _ _ hp0 hps,splitK_join _ _ hp0 hps]
  generalize parts s=ys at hd
  match ys,hd with
  |y :: ys,hd=>
    simp only[List.map_cons,List.cons.injEq]at hd
    obtain⟨hy,hys⟩:=hd
    have e0:rdOf ByteArray.empty (y :: ys) 0=y:=rfl
    rw[e0,prv_of y 46 (by decide) a b h4 (by omega) (by omega) h2 hy,List.drop_succ_cons,List.drop_zero]
    have e1:ys.map hopOf=l:=hops_of ys l hg hys
    rw[e1]
    exact fin_yes h hs
end Go.Proofs.YtlaeihdldofkcaaGreatDoor.IP

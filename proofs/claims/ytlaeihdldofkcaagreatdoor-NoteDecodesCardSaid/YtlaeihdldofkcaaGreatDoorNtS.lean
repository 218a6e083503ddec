/- Ids, written: what the program writes and what the document writes are one text. -/
import Derived.Test.YtlaeihdldofkcaaGreatDoorNtB
import Derived.Test.YtlaeihdldofkcaaGreatDoorPMx2
import Derived.Lib.ItoaNum
import Derived.Lib.ItoaLen
import Derived.Lib.ItoaMem
namespace Go.Proofs.YtlaeihdldofkcaaGreatDoor.IS
open Go.RowKit Go.Proofs.YtlaeihdldofkcaaGreatDoorW.PrintWords Go.Proofs.YtlaeihdldofkcaaGreatDoor.B Go.Proofs.YtlaeihdldofkcaaGreatDoor.PN Go.Proofs.YtlaeihdldofkcaaGreatDoor.IA Go.Proofs.YtlaeihdldofkcaaGreatDoor.IB
set_option linter.unusedSimpArgs false
set_option linter.unusedVariables false
def ba (l:List UInt8):ByteArray:=⟨l.toArray⟩
theorem ba_data (l:List UInt8):(ba l).data.toList=l:=by simp[ba]
theorem ba_size (l:List UInt8):(ba l).size=l.length:=by rw[size_eq_length,ba_data]
theorem ba_app (l m:List UInt8):ba l++ba m=ba (l++m):=str_ext (by rw[data_append,ba_data,ba_data,ba_data])
theorem ba_of (x:ByteArray):ba x.data.toList=x:=str_ext (by rw[ba_data])
/-- A hop, as it is written. -/
def hopL (x:S46):List UInt8:=47 :: (Lib.itoa x.f0++64 :: Lib.itoa x.f1)
/-- An id, as it is written. -/
def showL (a b:Int) (l:List S46):List UInt8:=Lib.itoa a++46 :: (Lib.itoa b++l.flatMap hopL)
theorem rf_hops:∀ (l:List S46) (t:List Int),rfB t l=true→∀ x ∈ l,0≤x.f0∧x.f0< 8∧0≤x.f1∧x.f1< 16
  |[],_,_,x,hx=> by cases hx
  |y :: l,t,h,x,hx=> by
    unfold rfB at h
    simp only[Bool.and_eq_true,decide_eq_true_eq,Bool.not_eq_true',ident_Check.badStep,Bool.or_eq_false_iff,decide_eq_false_iff_not]at h
    rcases List.mem_cons.1 hx with rfl|hx
    · obtain⟨h1,h2,h3,_⟩:=h
      omega
    · exact rf_hops l _ h.2.2.2.2 x hx
theorem good_hops {a b:Int} {l:List S46} (h:good a b l=true):∀ x ∈ l,0≤x.f0∧x.f0< 8∧0≤x.f1∧x.f1< 16:=rf_hops l _ (good_iff.1 h).2.2.2.2.2
theorem nDigits_le:∀ (k u:Nat),u< 10 ^ (k+1)→Lib.nDigits u≤k+1
  |0,u,h=> by rw[Lib.nDigits_small (by simpa using h)];exact Nat.le_refl _
  |k+1,u,h=> by
    by_cases hu:u< 10
    · rw[Lib.nDigits_small hu];omega
    · rw[Lib.nDigits_big hu]
      have:=nDigits_le k (u / 10) (by rw[Nat.pow_succ]at h;omega)
      omega
theorem itoa_nat (n:Nat):Lib.itoa (n:Int)=Lib.decDigits n:=Lib.itoa_nonneg n
theorem itoa_len (n:Int) (h0:0≤n) (h:n≤999999):(Lib.itoa n).length≤6:=by
  obtain⟨m,rfl⟩:=Int.eq_ofNat_of_zero_le h0
  rw[itoa_nat,Lib.decDigits_length]
  exact nDigits_le 5 m (by omega)
theorem itoa_eq (n:Int) (h0:0≤n) (h:n≤999999):strconv_Itoa.f n=some (ba (Lib.itoa n)):=by
  unfold strconv_Itoa.f
  rw[if_pos (by omega)]
  rfl
theorem flat_drop (l:List S46) (i:Nat) (h:i< l.length):(l.drop i).flatMap hopL=hopL l[i]++(l.drop (i+1)).flatMap hopL:=by
  rw[List.drop_eq_getElem_cons h,List.flatMap_cons]
theorem data47:(⟨#[47]⟩:ByteArray).data.toList=[47]:=rfl
theorem data64:(⟨#[64]⟩:ByteArray).data.toList=[64]:=rfl
theorem data46:(⟨#[46]⟩:ByteArray).data.toList=[46]:=rfl
theorem size47:(⟨#[47]⟩:ByteArray).size=1:=rfl
theorem ishow_loop (l:List S46) (hl:l.length≤4) (hg:∀ x ∈ l,0≤x.f0∧x.f0< 8∧0≤x.f1∧x.f1< 16):∀ (d i:Nat) (x:ByteArray),l.length - i=d→i≤l.length→x.size≤100+100 * i→
    Ev (fun k=> ident_Show.l0 k x l (l.length:Int) (i:Int)) (ba (x.data.toList++(l.drop i).flatMap hopL),0)
  |0,i,x,hd,hi,hx=> by
    refine Ev.step (fun k=> by rw[ident_Show.l0]) ?_
    rw[List.drop_of_length_le (by omega),List.flatMap_nil,List.append_nil,ba_of]
    exact ev_neg (by omega) (Ev.some rfl)
  |d+1,i,x,hd,hi,hx=> by
    have hlt:i< l.length:=by omega
    obtain⟨g0,g1,g2,g3⟩:=hg l[i] (List.getElem_mem hlt)
    have n0:=itoa_len l[i].f0 g0 (by omega)
    have n1:=itoa_len l[i].f1 g2 (by omega)
    have ih:=ishow_loop l hl hg d (i+1) (x++ba (hopL l[i])) (by omega) (by omega) (by
      rw[size_eq_length,data_append,List.length_append,← size_eq_length,ba_data]
      unfold hopL
      simp only[List.length_cons,List.length_append];omega)
    rw[data_append,ba_data,List.append_assoc,← flat_drop l i hlt]at ih
    refine Ev.step (fun k=> by rw[ident_Show.l0]) ?_
    rw[rd_get l i hlt,w64 i (by omega)]
    refine ev_pos (by omega) ?_
    refine ev_pos (by omega) ?_
    refine ev_pos (by omega) ?_
    refine ev_bind0 (itoa_eq _ g0 (by omega)) ?_
    rw[ba_size]
    refine ev_pos (by omega) ?_
    refine ev_pos (by omega) ?_
    refine ev_bind0 (itoa_eq _ g2 (by omega)) ?_
    rw[ba_size]
    refine ev_pos (by omega) ?_
    refine ev_pos (by omega) ?_
    have e:x++((((⟨#[47]⟩:ByteArray)++ba (Lib.itoa l[i].f0))++(⟨#[64]⟩:ByteArray))++ba (Lib.itoa l[i].f1))=x++ba (hopL l[i]):=by
      refine str_ext ?_
      simp only[data_append,ba_data,data47,data64,hopL]
      simp
    rw[e]
    exact ih
/-- What writing answers. -/
def shv (a b:Int) (l:List S46):ByteArray×Int:=if good a b l=true then(ba (showL a b l),0)else(⟨#[]⟩,30)
theorem shv_yes {a b:Int} {l:List S46} (h:good a b l=true):shv a b l=(ba (showL a b l),0):=if_pos h
theorem shv_no {a b:Int} {l:List S46} (h:¬ good a b l=true):shv a b l=(⟨#[]⟩,30):=if_neg h
theorem chk30 {a b:Int} {l:List S46} (h:¬ good a b l=true):chk a b l=30:=by unfold chk;rw[if_neg h]
theorem ishow_ev (a b:Int) (l:List S46):Ev (fun k=> ident_Show.f k a b l) (shv a b l):=by
  unfold ident_Show.f
  refine ev_bind0 (check_eq a b l) ?_
  by_cases h:good a b l=true
  · rw[shv_yes h]
    obtain⟨h1,h2,h3,h4,h5,h6⟩:=good_iff.1 h
    have n0:=itoa_len a h4 (by omega)
    have n1:=itoa_len b (by omega) h2
    refine ev_pos (chk0.2 h) ?_
    refine ev_bind0 (itoa_eq _ h4 (by omega)) ?_
    rw[ba_size]
    refine ev_pos (by omega) ?_
    refine ev_bind0 (itoa_eq _ (by omega) h2) ?_
    rw[ba_size]
    refine ev_pos (by omega) ?_
    have hs:((ba (Lib.itoa a)++(⟨#[46]⟩:ByteArray))++ba (Lib.itoa b)).data.toList=Lib.itoa a++46 :: Lib.itoa b:=by
      simp only[data_append,ba_data,data46];simp
    have:=ishow_loop l h3 (good_hops h) _ 0 _ rfl (Nat.zero_le _) (show((ba (Lib.itoa a)++(⟨#[46]⟩:ByteArray))++ba (Lib.itoa b)).size≤100+100 * 0 by
      rw[size_eq_length,hs,List.length_append,List.length_cons];omega)
    rw[hs,List.drop_zero]at this
    have e:showL a b l=(Lib.itoa a++46 :: Lib.itoa b)++l.flatMap hopL:=by unfold showL;simp
    rw[e]
    exact this
  · rw[shv_no h,chk30 h]
    exact ev_neg (by decide) (Ev.some rfl)
end Go.Proofs.YtlaeihdldofkcaaGreatDoor.IS

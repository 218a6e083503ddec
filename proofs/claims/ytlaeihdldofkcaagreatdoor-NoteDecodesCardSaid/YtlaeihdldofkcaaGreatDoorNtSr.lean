/- Ids, as the document writes them. -/
import Derived.Test.YtlaeihdldofkcaaGreatDoorNtS
import Derived.Test.YtlaeihdldofkcaaGreatDoorNtAr
import Derived.Test.YtlaeihdldofkcaaGreatDoorPMx8
namespace Go.Proofs.YtlaeihdldofkcaaGreatDoor.IS
open Go.RowKit Go.Proofs.YtlaeihdldofkcaaGreatDoorW.PrintWords Go.Proofs.YtlaeihdldofkcaaGreatDoor.B Go.Proofs.YtlaeihdldofkcaaGreatDoor.PN Go.Proofs.YtlaeihdldofkcaaGreatDoor.IA Go.Proofs.YtlaeihdldofkcaaGreatDoor.IB
set_option linter.unusedSimpArgs false
set_option linter.unusedVariables false
theorem ten (m:Nat) (h:m< 10):(⟨#[48,49,50,51,52,53,54,55,56,57]⟩:ByteArray).extract m (m+1)=ba (Lib.decDigits m):=by
  have h1:∀ m:Fin 10,((⟨#[48,49,50,51,52,53,54,55,56,57]⟩:ByteArray).extract m.val (m.val+1)).data.toList=[UInt8.ofNat (48+m.val)]:=by decide+kernel
  refine str_ext ?_
  rw[ba_data,Lib.decDigits_one h]
  exact h1 ⟨m,h⟩
theorem digits_ev:∀ (n:Nat),n≤999999→Ev (fun k=> ententeref03_Digits.f k (n:Int)) (ba (Lib.decDigits n)):=by
  intro n
  induction n using Nat.strongRecOn with
  |ind n ih=>
    intro hn
    refine Ev.step (fun k=> by rw[ententeref03_Digits.f]) ?_
    by_cases h:n< 10
    · have hw:=w64 n (by omega)
      rw[hw]
      refine ev_pos (by omega) ?_
      refine ev_pos (by omega) ?_
      refine ev_pos (by omega) ?_
      refine ev_pos (by omega) ?_
      rw[Int.toNat_natCast,Int.toNat_natCast]
      exact Ev.some (ten n h)
    · have e1:wrap64 (Int.tdiv (n:Int) 10)=((n / 10:Nat):Int):=by
        have:Int.tdiv (n:Int) 10=((n / 10:Nat):Int):=by rw[Int.tdiv_eq_ediv_of_nonneg (by omega)];omega
        rw[this,wrap64_of (by omega) (by omega)]
      have e2:Int.tmod (n:Int) 10=((n % 10:Nat):Int):=by rw[Int.tmod_eq_emod_of_nonneg (by omega)];omega
      rw[e1,e2]
      have hs:∀ m,m≤999999→(ba (Lib.decDigits m)).size≤6:=fun m hm=> by
        rw[ba_size,Lib.decDigits_length];exact nDigits_le 5 m (by omega)
      have h1:=hs (n / 10) (by omega)
      have h2:=hs (n % 10) (by omega)
      refine ev_neg (by omega) ?_
      refine Ev.bind (ih (n / 10) (by omega) (by omega)) ?_
      refine Ev.bind (ih (n % 10) (by omega) (by omega)) ?_
      refine ev_pos (by omega) (Ev.some ?_)
      rw[ba_app]
      congr 1
      conv=> rhs;rw[Lib.decDigits,dif_neg h]
      rw[Lib.decDigits_one (show n % 10< 10 by omega)]
theorem digit_ev (n:Int) (h0:0≤n) (h:n≤999999):Ev (fun k=> ententeref03_Digits.f k n) (ba (Lib.itoa n)):=by
  obtain⟨m,rfl⟩:=Int.eq_ofNat_of_zero_le h0
  rw[itoa_nat]
  exact digits_ev m (by omega)
theorem rshow_loop (a b:Int) (l:List S46) (hl:l.length≤4) (hg:∀ x ∈ l,0≤x.f0∧x.f0< 8∧0≤x.f1∧x.f1< 16):∀ (d i:Nat) (x:ByteArray),l.length - i=d→i≤l.length→x.size≤100+100 * i→
    Ev (fun k=> ententeref03_Show.l0 k x (i:Int) a b l) (ba (x.data.toList++(l.drop i).flatMap hopL),0)
  |0,i,x,hd,hi,hx=> by
    refine Ev.step (fun k=> by rw[ententeref03_Show.l0]) ?_
    rw[List.drop_of_length_le (by omega),List.flatMap_nil,List.append_nil,ba_of]
    exact ev_neg (by omega) (Ev.some rfl)
  |d+1,i,x,hd,hi,hx=> by
    have hlt:i< l.length:=by omega
    obtain⟨g0,g1,g2,g3⟩:=hg l[i] (List.getElem_mem hlt)
    have n0:=itoa_len l[i].f0 g0 (by omega)
    have n1:=itoa_len l[i].f1 g2 (by omega)
    have ih:=rshow_loop a b l hl hg d (i+1) (x++ba (hopL l[i])) (by omega) (by omega) (by
      rw[size_eq_length,data_append,List.length_append,← size_eq_length,ba_data]
      unfold hopL
      simp only[List.length_cons,List.length_append];omega)
    rw[data_append,ba_data,List.append_assoc,← flat_drop l i hlt]at ih
    refine Ev.step (fun k=> by rw[ententeref03_Show.l0]) ?_
    rw[rd_get l i hlt,w64 i (by omega)]
    refine ev_pos (by omega) ?_
    refine ev_pos (by omega) ?_
    refine ev_pos (by omega) ?_
    refine Ev.bind (digit_ev _ g0 (by omega)) ?_
    rw[ba_size]
    refine ev_pos (by omega) ?_
    refine ev_pos (by omega) ?_
    refine Ev.bind (digit_ev _ g2 (by omega)) ?_
    rw[ba_size]
    refine ev_pos (by omega) ?_
    have e:(((x++(⟨#[47]⟩:ByteArray))++ba (Lib.itoa l[i].f0))++(⟨#[64]⟩:ByteArray))++ba (Lib.itoa l[i].f1)=x++ba (hopL l[i]):=by
      refine str_ext ?_
      simp only[data_append,ba_data,data47,data64,hopL]
      simp
    rw[e]
    exact ih
theorem rshow_ev (a b:Int) (l:List S46):Ev (fun k=> ententeref03_Show.f k a b l) (shv a b l):=by
  unfold ententeref03_Show.f
  refine Ev.bind (rcheck_ev a b l) ?_
  by_cases h:good a b l=true
  · rw[shv_yes h]
    obtain⟨h1,h2,h3,h4,h5,h6⟩:=good_iff.1 h
    have n0:=itoa_len a h4 (by omega)
    have n1:=itoa_len b (by omega) h2
    refine ev_pos (chk0.2 h) ?_
    refine Ev.bind (digit_ev _ h4 (by omega)) ?_
    rw[ba_size]
    refine ev_pos (by omega) ?_
    refine Ev.bind (digit_ev _ (by omega) h2) ?_
    rw[ba_size]
    refine ev_pos (by omega) ?_
    have hs:((ba (Lib.itoa a)++(⟨#[46]⟩:ByteArray))++ba (Lib.itoa b)).data.toList=Lib.itoa a++46 :: Lib.itoa b:=by
      simp only[data_append,ba_data,data46];simp
    have:=rshow_loop a b l h3 (good_hops h) _ 0 _ rfl (Nat.zero_le _) (show((ba (Lib.itoa a)++(⟨#[46]⟩:ByteArray))++ba (Lib.itoa b)).size≤100+100 * 0 by
      rw[size_eq_length,hs,List.length_append,List.length_cons];omega)
    rw[hs,List.drop_zero]at this
    have e:showL a b l=(Lib.itoa a++46 :: Lib.itoa b)++l.flatMap hopL:=by unfold showL;simp
    rw[e]
    exact this
  · rw[shv_no h]
    exact ev_neg (fun h'=> h (chk0.1 h')) (Ev.some rfl)
end Go.Proofs.YtlaeihdldofkcaaGreatDoor.IS

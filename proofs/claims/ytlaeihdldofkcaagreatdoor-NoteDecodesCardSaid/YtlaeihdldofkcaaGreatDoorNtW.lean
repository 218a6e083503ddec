/- The document's Decode: a frame whose wire the text is, or none and why. -/
import Derived.Test.YtlaeihdldofkcaaGreatDoorNtX
import Derived.Test.YtlaeihdldofkcaaGreatDoorNtF
import Derived.Test.YtlaeihdldofkcaaGreatDoorNtPr
import Derived.Test.YtlaeihdldofkcaaGreatDoorPMx9
import Derived.Test.YtlaeihdldofkcaaGreatDoorPMx10
namespace Go.Proofs.YtlaeihdldofkcaaGreatDoor.NE
open Go.RowKit Go.Proofs.YtlaeihdldofkcaaGreatDoorW.PrintWords Go.Proofs.YtlaeihdldofkcaaGreatDoor.B Go.Proofs.YtlaeihdldofkcaaGreatDoor.PN Go.Proofs.YtlaeihdldofkcaaGreatDoor.IA Go.Proofs.YtlaeihdldofkcaaGreatDoor.IB Go.Proofs.YtlaeihdldofkcaaGreatDoor.IC Go.Proofs.YtlaeihdldofkcaaGreatDoor.ND Go.Proofs.YtlaeihdldofkcaaGreatDoor.NN
open Go.Proofs.YtlaeihdldofkcaaGreatDoor.NK (numL numL_le textL tnv rtake_ev tnv_of tnv_back txv rttext_ev txv_of txv_back sealL openv ropen_ev open_of open_back textL_len)
open Go.Proofs.YtlaeihdldofkcaaGreatDoor.IS (ba ba_data ba_size ba_app shv_yes showL)
open Go.Proofs.YtlaeihdldofkcaaGreatDoor.IP (show_len ipv ipv_sound ipv_complete)
set_option linter.unusedSimpArgs false
set_option linter.unusedVariables false
/-- So many numbers, laid. -/
def numsL (l:List Nat):List UInt8:=l.flatMap numL
theorem numbers_loop (s:ByteArray) (hs:s.size≤1000000) (many:Nat) (hm:many≤100):∀ (d i at_:Nat) (out:List Int),many - i=d→i≤many→at_≤s.size→out.length=i→
    ∃ r:List Int×Int×Bool,Ev (fun k=> ententeref13_numbers.l0 k s (at_:Int) (many:Int) out (i:Int)) r∧
      ((r=([],0,false)∧¬ ∃ (l:List Nat) (rest:List UInt8),l.length=d∧(∀ x ∈ l,x≤1000000000)∧s.data.toList.drop at_=numsL l++rest) ∨
       (∃ (l:List Nat) (q:Nat),l.length=d∧(∀ x ∈ l,x≤1000000000)∧q≤s.size∧s.data.toList.drop at_=numsL l++s.data.toList.drop q∧r=(out++l.map (fun n:Nat=> (n:Int)),(q:Int),true))):=by
  intro d
  induction d with
  |zero=>
    intro i at_ out hd hi hat ho
    refine⟨(out,(at_:Int),true),Ev.step (fun k=> by rw[ententeref13_numbers.l0]) (ev_neg (by omega) (Ev.some rfl)),.inr ⟨[],at_,rfl,by simp,hat,by simp[numsL],by simp⟩⟩
  |succ d ih=>
    intro i at_ out hd hi hat ho
    have ht:=rtake_ev s hs at_ hat
    rcases hr:tnv s at_ with⟨n,tq,e⟩
    rw[hr]at ht
    have hlt:(i:Int)< (many:Int):=by omega
    have hw1:wrap64 ((i:Int)+1)=((i+1:Nat):Int):=by rw[wrap64_of (by omega) (by omega)];omega
    have hol:out.length< 17592186044416:=by omega
    have hd2:many - (i+1)=d:=by omega
    have hi2:i+1≤many:=by omega
    have none_of (h:¬ ∃ (m:Nat) (rest:List UInt8),m≤1000000000∧s.data.toList.drop at_=numL m++rest):¬ ∃ (l:List Nat) (rest:List UInt8),l.length=d+1∧(∀ x ∈ l,x≤1000000000)∧s.data.toList.drop at_=numsL l++rest:=by
      rintro⟨l,rest,hl,hx,hdr⟩
      match l,hl with
      |m :: l,_=> exact h ⟨m,numsL l++rest,hx m (List.mem_cons_self ..),by rw[hdr];unfold numsL;rw[List.flatMap_cons,List.append_assoc]⟩
    by_cases he:e=0
    case neg=>
      refine⟨([],0,false),Ev.step (fun k=> by rw[ententeref13_numbers.l0]) (ev_pos hlt (Ev.bind ht (ev_neg he (Ev.some rfl)))),.inl ⟨rfl,none_of ?_⟩⟩
      rintro⟨m,rest,hm1,hdr⟩
      have:=tnv_of s at_ m rest (by omega) hdr
      rw[hr]at this
      simp only[Prod.mk.injEq]at this
      exact he this.2.2
    obtain⟨m,t,rfl,rfl,g1,g2,g3,g4⟩:=tnv_back s at_ n tq e hr he
    by_cases hm1:m≤1000000000
    case neg=>
      refine⟨([],0,false),Ev.step (fun k=> by rw[ententeref13_numbers.l0]) (ev_pos hlt (Ev.bind ht (ev_pos he (ev_pos (show(m:Int)> 1000000000 by clear none_of;omega) (Ev.some rfl))))),.inl ⟨rfl,none_of ?_⟩⟩
      clear none_of
      rintro⟨m',rest,hm2,hdr⟩
      have:=tnv_of s at_ m' rest (by omega) hdr
      rw[hr]at this
      simp only[Prod.mk.injEq]at this
      omega
    obtain⟨r,hE,hr2⟩:=ih (i+1) t (out++[(m:Int)]) hd2 hi2 g2 (by rw[List.length_append,ho];rfl)
    refine⟨r,Ev.step (fun k=> by rw[ententeref13_numbers.l0]) (ev_pos hlt (Ev.bind ht (ev_pos he (ev_neg (show ¬ (m:Int)> 1000000000 by have:=hm1;clear none_of;omega) (ev_pos hol ?_))))),?_⟩
    · show Ev (fun k=> ententeref13_numbers.l0 k s (t:Int) (many:Int) (out++[wrap64 (m:Int)]) (wrap64 ((i:Int)+1))) r
      clear none_of
      rw[wrap64_of (x:=(m:Int)) (by omega) (by omega),hw1]
      exact hE
    · clear none_of
      rcases hr2 with⟨rfl,hno⟩|⟨l,q,hl,hx,hq,hdr,rfl⟩
      · refine .inl ⟨rfl,?_⟩
        rintro⟨l,rest,hl,hx,hdr⟩
        match l,hl,hx,hdr with
        |m' :: l,hl,hx,hdr=>
          have hdr':s.data.toList.drop at_=numL m'++(numsL l++rest):=by rw[hdr];unfold numsL;rw[List.flatMap_cons,List.append_assoc]
          have:=tnv_of s at_ m' _ (by have:=hx m' (List.mem_cons_self ..);omega) hdr'
          rw[hr]at this
          simp only[Prod.mk.injEq]at this
          obtain rfl:m=m':=by omega
          rw[g3]at hdr'
          exact hno ⟨l,rest,by simpa using hl,fun x hx'=> hx x (List.mem_cons_of_mem _ hx'),List.append_cancel_left hdr'⟩
      · refine .inr ⟨m :: l,q,by rw[List.length_cons,hl],?_,hq,?_,?_⟩
        · intro x hx'
          rcases List.mem_cons.1 hx' with rfl|h
          · exact hm1
          · exact hx x h
        · rw[g3,hdr];unfold numsL;rw[List.flatMap_cons,List.append_assoc]
        · simp
end Go.Proofs.YtlaeihdldofkcaaGreatDoor.NE

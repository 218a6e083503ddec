/- Numbers and texts as bytes: what the program lays, and what it takes; a number is taken as it was laid, and only so. -/
import Derived.Test.YtlaeihdldofkcaaGreatDoorNtS
import Derived.Test.YtlaeihdldofkcaaGreatDoorPMx2
import Derived.Test.YtlaeihdldofkcaaGreatDoorPMx3
import Derived.Laws.Bits64
import Derived.Laws.Bits64b
namespace Go.Proofs.YtlaeihdldofkcaaGreatDoor.NK
open Go.RowKit Go.Proofs.YtlaeihdldofkcaaGreatDoorW.PrintWords Go.Proofs.YtlaeihdldofkcaaGreatDoorW.PrintMore Go.Proofs.YtlaeihdldofkcaaGreatDoor.B Go.Proofs.YtlaeihdldofkcaaGreatDoor.PN Go.Proofs.YtlaeihdldofkcaaGreatDoor.IS
set_option linter.unusedSimpArgs false
set_option linter.unusedVariables false
/-! ### numbers, laid -/
def numL (n:Nat):List UInt8:=if n< 128 then[UInt8.ofNat n]else UInt8.ofNat (n % 128+128) :: numL (n / 128)
termination_by n
decreasing_by omega
theorem numL_lo {n:Nat} (h:n< 128):numL n=[UInt8.ofNat n]:=by rw[numL,if_pos h]
theorem numL_hi {n:Nat} (h:¬ n< 128):numL n=UInt8.ofNat (n % 128+128) :: numL (n / 128):=by rw[numL,if_neg h]
theorem numL_pos (n:Nat):1≤(numL n).length:=by
  by_cases h:n< 128
  · rw[numL_lo h];simp
  · rw[numL_hi h];simp
theorem numL_len:∀ (k n:Nat),n< 128 ^ (k+1)→(numL n).length≤k+1
  |0,n,h=> by rw[numL_lo (by simpa using h)];simp
  |k+1,n,h=> by
    by_cases h0:n< 128
    · rw[numL_lo h0];simp
    · rw[numL_hi h0,List.length_cons]
      have:=numL_len k (n / 128) (by rw[Nat.pow_succ]at h;omega)
      omega
theorem numL_le (n:Nat) (h:n< 18446744073709551616):(numL n).length≤10:=numL_len 9 n (by omega)
theorem or128 (x:Nat):Go.bits .or .u8 (((x:Int)) % 256) 128=((x % 128+128:Nat):Int):=by
  have h:∀ m:Fin 256,Go.bits .or .u8 ((m.val:Nat):Int) 128=((m.val % 128+128:Nat):Int):=by decide+kernel
  have h1:=h ⟨x % 256,Nat.mod_lt _ (by decide)⟩
  have h2:((x:Int)) % 256=((x % 256:Nat):Int):=by omega
  rw[h2,h1]
  have h3:x % 256 % 128=x % 128:=by omega
  rw[h3]
theorem and127 (c:UInt8):Go.bits .and .u8 (c.toNat:Int) 127=((c.toNat % 128:Nat):Int):=by
  have h:∀ m:Fin 256,Go.bits .and .u8 ((m.val:Nat):Int) 127=((m.val % 128:Nat):Int):=by decide+kernel
  exact h ⟨c.toNat,c.toNat_lt⟩
theorem strNums (xs:List Int) (l:List UInt8):strOfNums (xs++l.map fun b=> (b.toNat:Int))=strOfNums xs++ba l:=by
  apply str_ext
  rw[data_append,strOfNums_data,strOfNums_data,ba_data,List.map_append,List.map_map]
  congr 1
  conv=> rhs;rw[← List.map_id l]
  apply List.map_congr_left
  intro b _
  simp
theorem number_loop:∀ (d n:Nat),n≤d→∀ (xs:List Int),xs.length+(numL n).length≤100→Ev (fun k=> pack_Number.l0 k (n:Int) xs) (strOfNums xs++ba (numL n))
  |d,n,hd,xs,hx=> by
    refine Ev.step (fun k=> by rw[pack_Number.l0]) ?_
    have hp:=numL_pos n
    by_cases h:n< 128
    · rw[numL_lo h]
      refine ev_neg (by omega) (ev_pos (by omega) (Ev.some ?_))
      rw[show[((n:Int)) % 256]=[UInt8.ofNat n].map (fun b=> (b.toNat:Int))by simp,strNums]
    · rw[numL_hi h]at hx ⊢
      rw[List.length_cons]at hx
      refine ev_pos (by omega) (ev_pos (by omega) ?_)
      rw[or128,show((n:Int)) / 128=((n / 128:Nat):Int)by omega]
      match d,hd with
      |0,hd=> omega
      |d+1,hd=>
      have ih:=number_loop d (n / 128) (by omega) (xs++[((n % 128+128:Nat):Int)]) (by rw[List.length_append];simp only[List.length_cons,List.length_nil];omega)
      rw[show[((n % 128+128:Nat):Int)]=[UInt8.ofNat (n % 128+128)].map (fun b=> (b.toNat:Int))by simp;omega,strNums,ByteArray.append_assoc,ba_app]at ih
      rw[show[((n % 128+128:Nat):Int)]=[UInt8.ofNat (n % 128+128)].map (fun b=> (b.toNat:Int))by simp;omega]
      exact ih
theorem number_ev (n:Nat) (h:n< 18446744073709551616):Ev (fun k=> pack_Number.f k (n:Int)) (ba (numL n)):=by
  unfold pack_Number.f
  have:=number_loop n n (Nat.le_refl _) [] (by have:=numL_le n h;rw[List.length_nil];omega)
  rw[show strOfNums []++ba (numL n)=ba (numL n)from str_ext (by rw[data_append,strOfNums_data];rfl)]at this
  exact this
def textL (s:ByteArray):List UInt8:=numL s.size++s.data.toList
theorem text_ev (s:ByteArray) (h:s.size≤1000000):Ev (fun k=> pack_Text.f k s) (ba (textL s)):=by
  unfold pack_Text.f
  rw[u64_in (by omega) (by omega)]
  refine Ev.bind (number_ev s.size (by omega)) (ev_pos ?_ (Ev.some ?_))
  · have:=numL_le s.size (by omega)
    rw[ba_size];omega
  · apply str_ext
    rw[data_append,ba_data,ba_data];rfl
/-! ### numbers, taken -/
def tn:Nat→Nat→List UInt8→Nat×Nat×Int
  |i,acc,[]=> if i< 10 then(0,0,10)else(0,0,11)
  |i,acc,c :: l=> if i< 10 then(if i=9∧1< c.toNat then(0,0,11)else if 128≤c.toNat then tn (i+1) (acc+(c.toNat % 128) * 2 ^ (7 * i)) l else if c.toNat=0∧0< i then(0,0,11)else(acc+(c.toNat % 128) * 2 ^ (7 * i),i+1,0))else(0,0,11)
def tres (at_:Nat) (r:Nat×Nat×Int):Int×Int×Int:=if r.2.2=0 then((r.1:Int),((at_+r.2.1:Nat):Int),0)else(0,0,r.2.2)
theorem pw_pos (n:Nat):0< 2 ^ n:=Nat.pow_pos (by decide)
theorem acc_next (i acc c:Nat) (ha:acc< 2 ^ (7 * i)) (hc:c< 128):acc+c * 2 ^ (7 * i)< 2 ^ (7 * (i+1)):=by
  have e:2 ^ (7 * (i+1))=128 * 2 ^ (7 * i):=by rw[Nat.mul_add,Nat.pow_add,Nat.mul_comm]
  rw[e]
  have:c * 2 ^ (7 * i)≤127 * 2 ^ (7 * i):=Nat.mul_le_mul_right _ (by omega)
  omega
theorem acc_last (acc c:Nat) (ha:acc< 2 ^ (7 * 9)) (hc:c≤1):acc+c * 2 ^ (7 * 9)< 18446744073709551616:=by
  have:c * 2 ^ (7 * 9)≤1 * 2 ^ (7 * 9):=Nat.mul_le_mul_right _ hc
  have e:(2:Nat) ^ (7 * 9)=9223372036854775808:=by decide
  omega
theorem acc_small (i acc c:Nat) (hi:i≤8) (ha:acc< 2 ^ (7 * i)) (hc:c< 128):acc+c * 2 ^ (7 * i)< 18446744073709551616:=by
  have h1:=acc_next i acc c ha hc
  have h2:2 ^ (7 * (i+1))≤2 ^ 63:=Nat.pow_le_pow_right (by decide) (by omega)
  have h3:(2:Nat) ^ 63< 18446744073709551616:=by decide
  omega
theorem or_add (i acc c:Nat) (hi:i≤9) (ha:acc< 2 ^ (7 * i)) (hb:acc+c * 2 ^ (7 * i)< 18446744073709551616) (hc:c< 128) :
    Go.bits .or .u64 (acc:Int) (shl .u64 (IntKind.u64.wrap ((c:Nat):Int)) (IntKind.u64.wrap (wrap64 (7 * (i:Int)))))=((acc+c * 2 ^ (7 * i):Nat):Int):=by
  rw[wrap64_of (by omega) (by omega),u64_in (x:=7 * (i:Int)) (by omega) (by omega),u64_in (x:=(c:Int)) (by omega) (by omega)]
  have hs:shl .u64 (c:Int) (7 * (i:Int))=((c * 2 ^ (7 * i):Nat):Int):=by
    unfold shl
    have e1:(7 * (i:Int)).toNat=7 * i:=by omega
    have e2:min (7 * i) (IntKind.u64.bits)=7 * i:=Nat.min_eq_left (by show 7 * i≤64;omega)
    rw[e1,e2]
    have e3:(c:Int) * 2 ^ (7 * i)=((c * 2 ^ (7 * i):Nat):Int):=by push_cast;rfl
    rw[e3]
    exact u64_in (by omega) (by omega)
  rw[hs,bits_or_u64_nat _ _ (by omega) (by omega)]
  have:=Nat.shiftLeft_add_eq_or_of_lt ha c
  rw[Nat.shiftLeft_eq]at this
  rw[Nat.or_comm,← this,Nat.add_comm]
theorem drop_bt (s:ByteArray) (j:Nat) (h:j< s.size):∃ c:UInt8,s.data.toList.drop j=c :: s.data.toList.drop (j+1)∧bt s (j:Int)=(c.toNat:Int):=by
  have hl:j< s.data.toList.length:=by rw[← size_eq_length];exact h
  exact⟨s.data.toList[j],List.drop_eq_getElem_cons hl,bt_get s j hl⟩
theorem take_loop (s:ByteArray) (hs:s.size≤1000000) (at_:Nat) (hat:at_≤s.size):∀ (d i acc:Nat),10 - i=d→i≤10→at_+i≤s.size→acc< 2 ^ (7 * i)→
    Ev (fun k=> pack_TakeNumber.l0 k s (at_:Int) (acc:Int) (i:Int)) (tres at_ (tn i acc (s.data.toList.drop (at_+i))))
  |0,i,acc,hd,hi,hai,ha=> by
    obtain rfl:i=10:=by omega
    refine Ev.step (fun k=> by rw[pack_TakeNumber.l0]) (ev_neg (by omega) (Ev.some ?_))
    cases s.data.toList.drop (at_+10)<;> simp[tn,tres]
  |d+1,i,acc,hd,hi,hai,ha=> by
    have hlt:i< 10:=by omega
    refine Ev.step (fun k=> by rw[pack_TakeNumber.l0]) (ev_pos (by omega) ?_)
    rw[show wrap64 ((at_:Int)+(i:Int))=((at_+i:Nat):Int)by rw[wrap64_of (by omega) (by omega)];omega]
    by_cases he:at_+i=s.size
    · refine ev_pos (by omega) (Ev.some ?_)
      rw[List.drop_of_length_le (by rw[← size_eq_length];omega)]
      simp[tn,tres,hlt]
    · obtain⟨c,hc,hb⟩:=drop_bt s (at_+i) (by omega)
      rw[hc,hb]
      refine ev_neg (by omega) (ev_pos (by omega) (ev_pos (by omega) ?_))
      have hcl:=c.toNat_lt
      have tail:¬ (i=9∧1< c.toNat)→Ev (fun k=> pack_TakeNumber.j2 k s (at_:Int) (acc:Int) (i:Int) (c.toNat:Int) (i:Int) false) (tres at_ (tn i acc (c :: s.data.toList.drop (at_+i+1)))):=by
        intro hn
        have hb2:acc+c.toNat % 128 * 2 ^ (7 * i)< 18446744073709551616:=by
          by_cases h9:i=9
          · subst h9;exact acc_last acc _ ha (by omega)
          · exact acc_small i acc _ (by omega) ha (by omega)
        have hor:=or_add i acc (c.toNat % 128) (by omega) ha hb2 (by omega)
        rw[tn,if_pos hlt,if_neg hn]
        refine Ev.step (fun k=> by rw[pack_TakeNumber.j2]) (ev_neg (by decide) ?_)
        rw[and127,hor]
        refine ev_pos ?_ ?_
        · rw[wrap64_of (x:=7 * (i:Int)) (by omega) (by omega),u64_in (x:=7 * (i:Int)) (by omega) (by omega)];omega
        refine ev_ite (fun h1=> ?_) (fun h1=> ?_)
        · rw[if_pos (show 128≤c.toNat by omega),show wrap64 ((i:Int)+1)=((i+1:Nat):Int)by rw[wrap64_of (by omega) (by omega)];omega]
          exact take_loop s hs at_ hat d (i+1) _ (by omega) (by omega) (by omega) (acc_next i acc _ ha (by omega))
        · rw[if_neg (show ¬ 128≤c.toNat by omega)]
          have hw:wrap64 (wrap64 ((at_:Int)+(i:Int))+1)=((at_+(i+1):Nat):Int):=by
            rw[wrap64_of (x:=(at_:Int)+(i:Int)) (by omega) (by omega),wrap64_of (by omega) (by omega)];omega
          rw[hw]
          refine ev_ite (fun h2=> ev_ite (fun h3=> Ev.some ?_) (fun h3=> Ev.some ?_)) (fun h2=> Ev.some ?_)
          · rw[if_pos (show c.toNat=0∧0< i by omega)];simp[tres]
          · rw[if_neg (show ¬ (c.toNat=0∧0< i)by omega)];simp[tres]
          · rw[if_neg (show ¬ (c.toNat=0∧0< i)by omega)];simp[tres]
      refine ev_ite (fun h9=> ?_) (fun h9=> tail (by omega))
      by_cases h1:(c.toNat:Int)> 1
      · rw[decide_eq_true h1]
        refine Ev.step (fun k=> by rw[pack_TakeNumber.j2]) (ev_pos rfl (Ev.some ?_))
        rw[tn,if_pos hlt,if_pos (show i=9∧1< c.toNat by omega)];simp[tres]
      · rw[decide_eq_false h1]
        exact tail (by omega)
def tnv (s:ByteArray) (at_:Nat):Int×Int×Int:=tres at_ (tn 0 0 (s.data.toList.drop at_))
theorem take_ev (s:ByteArray) (hs:s.size≤1000000) (at_:Nat) (hat:at_≤s.size):Ev (fun k=> pack_TakeNumber.f k s (at_:Int)) (tnv s at_):=by
  unfold pack_TakeNumber.f
  refine ev_neg (by omega) ?_
  rw[decide_eq_false (by omega)]
  refine Ev.step (fun k=> by rw[pack_TakeNumber.j0]) (ev_neg (by decide) ?_)
  exact take_loop s hs at_ hat 10 0 0 rfl (by omega) (by omega) (by decide)
end Go.Proofs.YtlaeihdldofkcaaGreatDoor.NK

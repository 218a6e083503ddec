/- The document's sum, bit by bit, is the program's, half a byte at a time; sealed and opened alike. -/
import Derived.Test.YtlaeihdldofkcaaGreatDoorNtU
import Derived.Test.YtlaeihdldofkcaaGreatDoorPMx8
import Derived.Test.YtlaeihdldofkcaaGreatDoorPMx9
import Derived.Laws.Bits64
import Derived.Laws.Bits64b
namespace Go.Proofs.YtlaeihdldofkcaaGreatDoor.NK
open Go.RowKit Go.Proofs.YtlaeihdldofkcaaGreatDoorW.PrintWords Go.Proofs.YtlaeihdldofkcaaGreatDoorW.PrintMore Go.Proofs.YtlaeihdldofkcaaGreatDoor.B Go.Proofs.YtlaeihdldofkcaaGreatDoor.PN Go.Proofs.YtlaeihdldofkcaaGreatDoor.IS
set_option linter.unusedSimpArgs false
set_option linter.unusedVariables false
def pol (b:Bool):Nat:=if b then 14514072000185962306 else 0
def s1 (r:Nat):Nat:=(r / 2) ^^^ pol (r % 2==1)
theorem x_div2 (a b:Nat):(a ^^^ b) / 2=a / 2 ^^^ b / 2:=by
  have:=Nat.xor_div_two_pow (a:=a) (b:=b) (n:=1)
  simpa using this
theorem x_mod2 (a b:Nat):(a ^^^ b) % 2=(a % 2) ^^^ (b % 2):=by
  have:=Nat.xor_mod_two_pow (a:=a) (b:=b) (n:=1)
  simpa using this
theorem pol_xor (a b:Nat):pol ((a ^^^ b) % 2==1)=pol (a % 2==1) ^^^ pol (b % 2==1):=by
  rw[x_mod2]
  rcases Nat.mod_two_eq_zero_or_one a with ha|ha<;> rcases Nat.mod_two_eq_zero_or_one b with hb|hb<;> rw[ha,hb]<;> decide
theorem s1_xor (a b:Nat):s1 (a ^^^ b)=s1 a ^^^ s1 b:=by
  unfold s1
  rw[x_div2,pol_xor]
  simp only[Nat.xor_assoc]
  congr 1
  rw[← Nat.xor_assoc,← Nat.xor_assoc,Nat.xor_comm (b / 2) (pol (a % 2==1))]
def s4 (r:Nat):Nat:=s1 (s1 (s1 (s1 r)))
def f4 (a b c d:Bool):Nat:=pol d ^^^ (s1 (pol c) ^^^ (s1 (s1 (pol b)) ^^^ s1 (s1 (s1 (pol a)))))
theorem s1_def (r:Nat):s1 r=(r / 2) ^^^ pol (r % 2==1):=rfl
theorem s4_bits (y:Nat):s4 y=(y / 2 / 2 / 2 / 2) ^^^ f4 (y % 2==1) (y / 2 % 2==1) (y / 2 / 2 % 2==1) (y / 2 / 2 / 2 % 2==1):=by
  unfold s4 f4
  rw[s1_def y,s1_xor,s1_xor,s1_xor,s1_def (y / 2),s1_xor,s1_xor,s1_def (y / 2 / 2),s1_xor,s1_def (y / 2 / 2 / 2)]
  simp only[Nat.xor_assoc]
theorem s4_split (y:Nat):s4 y=(y / 16) ^^^ s4 (y % 16):=by
  rw[s4_bits y,s4_bits (y % 16)]
  have e:y / 2 / 2 / 2 / 2=y / 16:=by omega
  have e0:y % 16 / 2 / 2 / 2 / 2=0:=by omega
  have e1:y % 16 % 2=y % 2:=by omega
  have e2:y % 16 / 2 % 2=y / 2 % 2:=by omega
  have e3:y % 16 / 2 / 2 % 2=y / 2 / 2 % 2:=by omega
  have e4:y % 16 / 2 / 2 / 2 % 2=y / 2 / 2 / 2 % 2:=by omega
  rw[e,e0,e1,e2,e3,e4,Nat.zero_xor]
theorem tab_s4:∀ n,n< 16→seal_Sum.tab.getD n 0=((s4 n:Nat):Int):=by decide+kernel
theorem s4_small:∀ n,n< 16→s4 n< 18446744073709551616:=by decide+kernel
theorem s4_lt (y:Nat) (h:y< 18446744073709551616):s4 y< 18446744073709551616:=by
  rw[s4_split]
  exact Nat.xor_lt_two_pow (n:=64) (by omega) (s4_small _ (by omega))
theorem nib_s4 (y:Nat) (h:y< 18446744073709551616):seal_Sum.nib (y:Int)=((s4 y:Nat):Int):=by
  unfold seal_Sum.nib
  have ea:bits .and .u64 (y:Int) 15=((y &&& 15:Nat):Int):=bits_and_u64_nat y 15 h (by omega)
  rw[ea,show y &&& 15=y % 16 from Nat.and_two_pow_sub_one_eq_mod y 4,Int.toNat_natCast,tab_s4 _ (by omega),show(y:Int) / 16=((y / 16:Nat):Int)by omega,bits_xor_u64_nat _ _ (by omega) (s4_small _ (by omega)),← s4_split]
def s8 (r:Nat):Nat:=s4 (s4 r)
theorem stepB_s8 (r b:Nat) (hr:r< 18446744073709551616) (hb:b< 256):seal_Sum.stepB (r:Int) (b:Int)=((s8 (r ^^^ b):Nat):Int):=by
  have hx:r ^^^ b< 18446744073709551616:=Nat.xor_lt_two_pow (n:=64) (by omega) (by omega)
  unfold seal_Sum.stepB s8
  rw[bits_xor_u64_nat r b hr (by omega),nib_s4 _ hx,nib_s4 _ (s4_lt _ hx)]
/-- One bit of the document's. -/
def bit (r c:Nat):Nat:=(r / 2) ^^^ pol (r % 2 !=c % 2)
theorem bit_s1 (r c:Nat):bit r c ^^^ (c / 2)=s1 (r ^^^ c):=by
  unfold bit
  rw[s1_def,x_div2,x_mod2]
  have e:(r % 2 !=c % 2)=((r % 2 ^^^ c % 2)==1):=by
    rcases Nat.mod_two_eq_zero_or_one r with ha|ha<;> rcases Nat.mod_two_eq_zero_or_one c with hb|hb<;> rw[ha,hb]<;> decide
  rw[e,Nat.xor_assoc,Nat.xor_assoc,Nat.xor_comm (c / 2)]
theorem pol_lt (b:Bool):pol b< 18446744073709551616:=by cases b<;> decide
theorem bit_lt (r c:Nat) (h:r< 18446744073709551616):bit r c< 18446744073709551616:=Nat.xor_lt_two_pow (n:=64) (by omega) (pol_lt _)
/-- So many bits. -/
def bitsN:Nat→Nat→Nat→Nat
  |0,r,_=> r
  |n+1,r,c=> bitsN n (bit r c) (c / 2)
def s1N:Nat→Nat→Nat
  |0,y=> y
  |n+1,y=> s1N n (s1 y)
theorem bitsN_s1N:∀ (n r c:Nat),c< 2 ^ n→bitsN n r c=s1N n (r ^^^ c)
  |0,r,c,h=> by
    have:c=0:=by simpa using h
    subst this
    show r=r ^^^ 0
    rw[Nat.xor_zero]
  |n+1,r,c,h=> by
    show bitsN n (bit r c) (c / 2)=s1N n (s1 (r ^^^ c))
    rw[bitsN_s1N n (bit r c) (c / 2) (by rw[Nat.pow_succ]at h;omega),bit_s1]
theorem bits8 (r c:Nat) (h:c< 256):bitsN 8 r c=s8 (r ^^^ c):=bitsN_s1N 8 r c h
theorem shr_bits (c j:Nat) (hc:c< 256) (hj:j≤7):IntKind.u64.wrap (shr .u8 (c:Int) (j:Int))=((c / 2 ^ j:Nat):Int):=by
  have h1:j=0 ∨ j=1 ∨ j=2 ∨ j=3 ∨ j=4 ∨ j=5 ∨ j=6 ∨ j=7:=by omega
  have:∀ c:Nat,c< 256→IntKind.u64.wrap (shr .u8 (c:Int) (j:Int))=((c / 2 ^ j:Nat):Int):=by
    rcases h1 with rfl|rfl|rfl|rfl|rfl|rfl|rfl|rfl<;> decide+kernel
  exact this c hc
theorem sum_bits (s:ByteArray) (i:Nat) (hi:i< s.size) (hs:s.size≤1000000) (c:UInt8) (hc:bt s (i:Int)=(c.toNat:Int)) (R:Int):∀ (d j r:Nat),8 - j=d→j≤8→r< 18446744073709551616→
    Ev (fun k=> ententeref02_Sum.l0 k s ((bitsN (8 - j) r (c.toNat / 2 ^ j):Nat):Int) ((i+1:Nat):Int)) R→Ev (fun k=> ententeref02_Sum.l1 k s (r:Int) (i:Int) (j:Int)) R:=by
  intro d
  induction d with
  |zero=>
    intro j r hd hj hr H
    obtain rfl:j=8:=by omega
    refine Ev.step (fun k=> by rw[ententeref02_Sum.l1]) (ev_neg (by omega) ?_)
    rw[wrap64_of (by omega) (by omega)]
    exact H
  |succ d ih=>
    intro j r hd hj hr H
    have hc2:=c.toNat_lt
    refine Ev.step (fun k=> by rw[ententeref02_Sum.l1]) (ev_pos (by omega) (ev_pos (by omega) (ev_pos (by omega) (ev_pos (by omega) ?_))))
    rw[hc,shr_bits c.toNat j (by omega) (by omega),w64u (Int.tdiv (r:Int) 2) (r / 2) (by rw[Int.tdiv_eq_ediv_of_nonneg (by omega)];omega) (by omega),show wrap64 ((j:Int)+1)=((j+1:Nat):Int)by rw[wrap64_of (by omega) (by omega)];omega,Int.tmod_eq_emod_of_nonneg (Int.natCast_nonneg _),Int.tmod_eq_emod_of_nonneg (Int.natCast_nonneg _)]
    have e8:8 - j=(8 - (j+1))+1:=by omega
    rw[e8]at H
    have e2:c.toNat / 2 ^ j / 2=c.toNat / 2 ^ (j+1):=by rw[Nat.div_div_eq_div_mul,Nat.pow_succ]
    have H':Ev (fun k=> ententeref02_Sum.l0 k s ((bitsN (8 - (j+1)) (bit r (c.toNat / 2 ^ j)) (c.toNat / 2 ^ (j+1)):Nat):Int) ((i+1:Nat):Int)) R:=by
      rw[← e2];exact H
    have go:=ih (j+1) (bit r (c.toNat / 2 ^ j)) (by omega) (by omega) (bit_lt _ _ hr) H'
    by_cases hq:(r:Int) % 2=((c.toNat / 2 ^ j:Nat):Int) % 2
    · have eb:bit r (c.toNat / 2 ^ j)=r / 2:=by
        unfold bit
        rw[show(r % 2 !=c.toNat / 2 ^ j % 2)=false from bne_eq_false_iff_eq.2 (by generalize c.toNat / 2 ^ j=m at hq ⊢;omega)]
        exact Nat.xor_zero _
      rw[eb]at go
      exact ev_pos hq go
    · have eb:bit r (c.toNat / 2 ^ j)=r / 2 ^^^ 14514072000185962306:=by
        unfold bit
        rw[show(r % 2 !=c.toNat / 2 ^ j % 2)=true from bne_iff_ne.2 (by generalize c.toNat / 2 ^ j=m at hq ⊢;omega)]
        rfl
      rw[eb]at go
      refine ev_neg hq ?_
      have ex:bits .xor .u64 ((r / 2:Nat):Int) 14514072000185962306=((r / 2 ^^^ 14514072000185962306:Nat):Int):=bits_xor_u64_nat (r / 2) 14514072000185962306 (by omega) (by omega)
      rw[ex]
      exact go
theorem sum_loop (s:ByteArray) (hs:s.size≤1000000):∀ (d i r:Nat),s.size - i=d→i≤s.size→r< 18446744073709551616→Ev (fun k=> ententeref02_Sum.l0 k s (r:Int) (i:Int)) (Go.bits .xor .u64 18446744073709551615 (seal_Sum.crcS (r:Int) (s.data.toList.drop i))):=by
  intro d
  induction d with
  |zero=>
    intro i r hd hi hr
    rw[List.drop_of_length_le (by rw[← size_eq_length];omega)]
    have e:Go.bits .xor .u64 18446744073709551615 (seal_Sum.crcS (r:Int) [])=((18446744073709551615 - r:Nat):Int):=by
      show Go.bits .xor .u64 ((18446744073709551615:Nat):Int) (r:Int)=_
      rw[bits_xor_u64_nat _ _ (by omega) hr]
      congr 1
      have h1:(~~~ (BitVec.ofNat 64 r)).toNat=2 ^ 64 - 1 - r:=by rw[BitVec.toNat_not,BitVec.toNat_ofNat,Nat.mod_eq_of_lt hr]
      rw[BitVec.not_def,BitVec.toNat_xor,BitVec.toNat_allOnes,BitVec.toNat_ofNat,Nat.mod_eq_of_lt hr]at h1
      exact h1
    rw[e]
    refine Ev.step (fun k=> by rw[ententeref02_Sum.l0]) (ev_neg (by omega) (Ev.some ?_))
    exact w64u _ _ (by omega) (by omega)
  |succ d ih=>
    intro i r hd hi hr
    obtain⟨c,hc,hbt⟩:=drop_bt s i (by omega)
    have hc2:=c.toNat_lt
    refine Ev.step (fun k=> by rw[ententeref02_Sum.l0]) (ev_pos (by omega) ?_)
    refine sum_bits s i (by omega) hs c hbt _ 8 0 r rfl (by omega) hr ?_
    rw[show 8 - 0=8 from rfl,Nat.pow_zero,Nat.div_one,bits8 r c.toNat (by omega)]
    have hx:r ^^^ c.toNat< 18446744073709551616:=Nat.xor_lt_two_pow (n:=64) (by omega) (by omega)
    have ih':=ih (i+1) (s8 (r ^^^ c.toNat)) (by omega) (by omega) (s4_lt _ (s4_lt _ hx))
    have e:seal_Sum.crcS (r:Int) (s.data.toList.drop i)=seal_Sum.crcS ((s8 (r ^^^ c.toNat):Nat):Int) (s.data.toList.drop (i+1)):=by
      rw[hc,← stepB_s8 r c.toNat hr (by omega)];rfl
    rw[e]
    exact ih'
theorem rsum_ev (s:ByteArray) (hs:s.size≤1000000):Ev (fun k=> ententeref02_Sum.f k s) (sumL s.data.toList):=by
  unfold ententeref02_Sum.f
  have:=sum_loop s hs s.size 0 18446744073709551615 rfl (Nat.zero_le _) (by omega)
  rw[List.drop_zero]at this
  exact this
end Go.Proofs.YtlaeihdldofkcaaGreatDoor.NK

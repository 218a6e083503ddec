/- The machine side of this seat's laws: plain functions, and proofs that the calls do what they say; written by a program of this session over the translation; no conditions beyond those typed. -/
import Derived.Test.YtlaeihdldofkcaaGreatDoorPMx0
import Derived.Test.YtlaeihdldofkcaaGreatDoorPMx8
import Derived.Test.YtlaeihdldofkcaaGreatDoorPMx9
namespace Go.Proofs.YtlaeihdldofkcaaGreatDoor.PN
open Go.RowKit Go.Proofs.YtlaeihdldofkcaaGreatDoorW.PrintWords Go.Proofs.YtlaeihdldofkcaaGreatDoorW.PrintLast Go.Proofs.YtlaeihdldofkcaaGreatDoorW.PrintMore
attribute [local go_sem] max2_int min2_int max_two min_two max_three min_three max_four min_four   -- for this text's walks alone
open List renaming setIfInBounds_toArray → l_a, set_cons_zero → l_z, set_cons_succ → l_s, map_toArray → l_m, map_cons → l_c, map_nil → l_n
set_option linter.unusedVariables false
set_option linter.unusedSimpArgs false

/-! ### ententeref13_Decode: function 12 -/
mutual
def ententeref13_Decode.j2:Nat→ByteArray→Int→Int→Int→Int→Int→Int→Int→Int→Int→List (S46)→ByteArray→Int→Option (Int×Int×Int×Int×Int×Int×Int×Int×Int×(List (S46))×ByteArray×Int×Int)
 |0,_,_,_,_,_,_,_,_,_,_,_,_,_=> none
 |k+1,x0,a4,a5,a6,a7,a8,a9,bB,bC,bD,bT,bE,bF=> (ententeref13_Encode.f k a4 a5 a6 a7 a8 a9 bB bC bD bT bE bF).bind fun eX=> (if eX.2=0 then(ententeref13_Decode.j3 k (eX.1.toList !=x0.toList) a4 a5 a6 a7 a8 a9 bB bC bD bT bE bF)else(ententeref13_Decode.j3 k true a4 a5 a6 a7 a8 a9 bB bC bD bT bE bF))
def ententeref13_Decode.j3:Nat→Bool→Int→Int→Int→Int→Int→Int→Int→Int→Int→List (S46)→ByteArray→Int→Option (Int×Int×Int×Int×Int×Int×Int×Int×Int×(List (S46))×ByteArray×Int×Int)
 |0,_,_,_,_,_,_,_,_,_,_,_,_,_=> none
 |k+1,nV,a4,a5,a6,a7,a8,a9,bB,bC,bD,bT,bE,bF=> if nV=true then(some (0,0,0,0,0,0,0,0,0,([]:List (S46)),(⟨#[]⟩:ByteArray),0,130))else(some (a4,a5,a6,a7,a8,a9,bB,bC,bD,bT,bE,bF,0))
def ententeref13_Decode.j0:Nat→ByteArray→ByteArray→List Int→ByteArray→Int→Bool→Int→Int→Int→Int→Int→Int→Int→Int→Int→ByteArray→Int→Option (Int×Int×Int×Int×Int×Int×Int×Int×Int×(List (S46))×ByteArray×Int×Int)
 |0,_,_,_,_,_,_,_,_,_,_,_,_,_,_,_,_,_=> none
 |k+1,x0,x4,fQ,o7,o8,o9,a4,a5,a6,a7,a8,a9,bB,bC,bD,bE,bF=> if o9=true then(some (0,0,0,0,0,0,0,0,0,([]:List (S46)),(⟨#[]⟩:ByteArray),0,130))else((ententeref03_Parse.f k o7).bind fun bG=> ((ententeref01_TakeText.f k x4 o8).bind fun bK=> (if bG.2.2.2=0 then(ententeref13_Decode.j1 k x0 x4 fQ bK.1 bK.2.1 (bK.2.2 !=0) a4 a5 a6 a7 a8 a9 bB bC bD bE bF bG.1 bG.2.1 bG.2.2.1)else(ententeref13_Decode.j1 k x0 x4 fQ bK.1 bK.2.1 true a4 a5 a6 a7 a8 a9 bB bC bD bE bF bG.1 bG.2.1 bG.2.2.1))))
def ententeref13_Decode.j1:Nat→ByteArray→ByteArray→List Int→ByteArray→Int→Bool→Int→Int→Int→Int→Int→Int→Int→Int→Int→ByteArray→Int→Int→Int→List (S46)→Option (Int×Int×Int×Int×Int×Int×Int×Int×Int×(List (S46))×ByteArray×Int×Int)
 |0,_,_,_,_,_,_,_,_,_,_,_,_,_,_,_,_,_,_,_,_=> none
 |k+1,x0,x4,fQ,pA,pB,nW,a4,a5,a6,a7,a8,a9,bB,bC,bD,bE,bF,d3,d4,d5=> if nW=true then(some (0,0,0,0,0,0,0,0,0,([]:List (S46)),(⟨#[]⟩:ByteArray),0,130))else((ententeref13_numbers.f k x4 pB 1).bind fun b2=> (if b2.2.2=true then(if 0< (fQ.length:Int)then(if 0< (b2.1.length:Int)then(ententeref13_Decode.j2 k x0 a4 a5 a6 a7 a8 a9 (rd fQ 0) d3 d4 d5 pA (rd b2.1 0))else(none))else(none))else(some (0,0,0,0,0,0,0,0,0,([]:List (S46)),(⟨#[]⟩:ByteArray),0,130))))
end
def ententeref13_Decode.f (k:Nat) (a0:ByteArray):Option (Int×Int×Int×Int×Int×Int×Int×Int×Int×(List (S46))×ByteArray×Int×Int):=(ententeref02_Open.f k a0 0 1).bind fun b3=> (if b3.2.2=0 then((ententeref13_numbers.f k b3.1 0 6).bind fun aV=> (if aV.2.2=true then(if 0< (aV.1.length:Int)then(if 1< (aV.1.length:Int)then(if 2< (aV.1.length:Int)then(if 3< (aV.1.length:Int)then(if 4< (aV.1.length:Int)then(if 5< (aV.1.length:Int)then(if(rd aV.1 3)=0 then(ententeref13_Decode.j2 k a0 (rd aV.1 0) (rd aV.1 1) (rd aV.1 2) (rd aV.1 3) (rd aV.1 4) (rd aV.1 5) 0 0 0 ([]:List (S46)) (⟨#[]⟩:ByteArray) 0)else((ententeref13_numbers.f k b3.1 aV.2.1 1).bind fun bU=> ((ententeref01_TakeText.f k b3.1 bU.2.1).bind fun bL=> (if bU.2.2=true then(ententeref13_Decode.j0 k a0 b3.1 bU.1 bL.1 bL.2.1 (bL.2.2 !=0) (rd aV.1 0) (rd aV.1 1) (rd aV.1 2) (rd aV.1 3) (rd aV.1 4) (rd aV.1 5) 0 0 0 (⟨#[]⟩:ByteArray) 0)else(ententeref13_Decode.j0 k a0 b3.1 bU.1 bL.1 bL.2.1 true (rd aV.1 0) (rd aV.1 1) (rd aV.1 2) (rd aV.1 3) (rd aV.1 4) (rd aV.1 5) 0 0 0 (⟨#[]⟩:ByteArray) 0)))))else(none))else(none))else(none))else(none))else(none))else(none))else(some (0,0,0,0,0,0,0,0,0,([]:List (S46)),(⟨#[]⟩:ByteArray),0,130))))else(some (0,0,0,0,0,0,0,0,0,([]:List (S46)),(⟨#[]⟩:ByteArray),0,b3.2.2)))
def ententeref13_Decode.T7:Bool×List (List Nat×List Nat):=(true,[([],[]),([0],[0]),([1],[1]),([],[]),([3],[3]),([4],[4]),([],[]),([6],[6]),([7],[7]),([],[]),([9],[9]),([10],[10]),([],[]),([12],[12]),([13],[13]),([],[]),([15],[15]),([16],[16]),([2,5,8,11,14,17],[2,5,8,11,14,17]),([],[]),([19,18,0,1,2,3,4,5,6,7,8,9,10,11,12,13,14,15,16,17,18,19],[18,19])])
def ententeref13_Decode.B7:List Nat:=[0,1,3,0,8,24,0,64,192,0,512,1536,0,4096,12288,0,32768,98304,262143,0,1048575]
theorem ententeref13_Decode.tab7:rtab .any (opsOf Tryz.f12 7)=ententeref13_Decode.T7:=by kernel_rfl
theorem ententeref13_Decode.bits7:waitsOk ententeref13_Decode.T7.2 ententeref13_Decode.B7=true:=by kernel_rfl
def ententeref13_Decode.T20:Bool×List (List Nat×List Nat):=(true,[([],[]),([0],[0]),([1],[1]),([],[]),([],[]),([],[]),([5],[5]),([6],[6]),([2,3,4,7],[2,3,4,7]),([0,1,2,3,4,5,6,7,8],[]),([9,8,0,1,2,3,4,5,6,7,8],[8,9])])
def ententeref13_Decode.B20:List Nat:=[0,1,3,0,0,0,32,96,255,511,1023]
theorem ententeref13_Decode.tab20:rtab .any (opsOf Tryz.f12 20)=ententeref13_Decode.T20:=by kernel_rfl
theorem ententeref13_Decode.bits20:waitsOk ententeref13_Decode.T20.2 ententeref13_Decode.B20=true:=by kernel_rfl
set_option maxHeartbeats 8000000 in
set_option maxRecDepth 100000 in
theorem ententeref13_Decode.calls (k:Nat) (a0:ByteArray) (r1:Int) (r2:Int) (r3:Int) (r4:Int) (r5:Int) (r6:Int) (r7:Int) (r8:Int) (r9:Int) (r10:List (S46)) (r11:ByteArray) (r12:Int) (r13:Int) (w:World) (h:ententeref13_Decode.f k a0=some (r1,r2,r3,r4,r5,r6,r7,r8,r9,r10,r11,r12,r13)) :
  Calls Tryz.prog 12 #[.string a0] w fun e w'=> ∃ v9_:Value,e=.returned (.tuple #[.agg #[i6 r1,i6 r2,i6 r3,i6 r4,i6 r5,i6 r6,i6 r7,i6 r8,i6 r9,v9_,.string r11,i6 r12],i6 r13])∧Kd.R k46 46 w' w.heap.size (fun _=> True) v9_ r10∧Below w.heap.size w w':=by
 have hu28:=Tryz.underlying28
 have hu24:=Tryz.underlying24
 have hu26:=Tryz.underlying26
 have HB:=am (Below.refl w.heap.size w)
 unfold ententeref13_Decode.f at h
 have H:=h
 clear h
 obtain⟨⟨a2,fD,d6⟩,n3,H⟩:=Option.bind_eq_some_iff.mp H
 try dsimp only at H
 have A2:=am n3
 clear n3
 by_cases c3:d6=0
 ·rw[if_pos c3]at H
  have fE:=beq_iff_eq.mpr c3
  have fF:=bne_eq_false_iff_eq.mpr c3
  clear c3
  obtain⟨⟨aA,dI,n0⟩,n4,H⟩:=Option.bind_eq_some_iff.mp H
  try dsimp only at H
  have A4:=am n4
  clear n4
  by_cases c5:n0=true
  ·subst c5
   have H1:(if 0< (aA.length:Int)then(if 1< (aA.length:Int)then(if 2< (aA.length:Int)then(if 3< (aA.length:Int)then(if 4< (aA.length:Int)then(if 5< (aA.length:Int)then(if(rd aA 3)=0 then(ententeref13_Decode.j2 k a0 (rd aA 0) (rd aA 1) (rd aA 2) (rd aA 3) (rd aA 4) (rd aA 5) 0 0 0 ([]:List (S46)) (⟨#[]⟩:ByteArray) 0)else((ententeref13_numbers.f k a2 dI 1).bind fun bU=> ((ententeref01_TakeText.f k a2 bU.2.1).bind fun bL=> (if bU.2.2=true then(ententeref13_Decode.j0 k a0 a2 bU.1 bL.1 bL.2.1 (bL.2.2 !=0) (rd aA 0) (rd aA 1) (rd aA 2) (rd aA 3) (rd aA 4) (rd aA 5) 0 0 0 (⟨#[]⟩:ByteArray) 0)else(ententeref13_Decode.j0 k a0 a2 bU.1 bL.1 bL.2.1 true (rd aA 0) (rd aA 1) (rd aA 2) (rd aA 3) (rd aA 4) (rd aA 5) 0 0 0 (⟨#[]⟩:ByteArray) 0)))))else(none))else(none))else(none))else(none))else(none))else(none))=some (r1,r2,r3,r4,r5,r6,r7,r8,r9,r10,r11,r12,r13):=by rw[if_pos rfl]at H;exact H
   clear H
   have H:=H1
   clear H1
   by_cases c6:0< (aA.length:Int)
   ·rw[if_pos c6]at H
    have fR:=decide_eq_true c6
    have fS:decide (0< aA.length)=true:=decide_eq_true (by omega)
    clear c6
    by_cases c7:1< (aA.length:Int)
    ·rw[if_pos c7]at H
     have fT:=decide_eq_true c7
     have fU:decide (1< aA.length)=true:=decide_eq_true (by omega)
     clear c7
     by_cases c8:2< (aA.length:Int)
     ·rw[if_pos c8]at H
      have fV:=decide_eq_true c8
      have fW:decide (2< aA.length)=true:=decide_eq_true (by omega)
      clear c8
      by_cases c9:3< (aA.length:Int)
      ·rw[if_pos c9]at H
       have fX:=decide_eq_true c9
       have fY:decide (3< aA.length)=true:=decide_eq_true (by omega)
       clear c9
       by_cases c10:4< (aA.length:Int)
       ·rw[if_pos c10]at H
        have eY:=decide_eq_true c10
        have eZ:decide (4< aA.length)=true:=decide_eq_true (by omega)
        clear c10
        by_cases hQ:5< (aA.length:Int)
        ·rw[if_pos hQ]at H
         have e0:=decide_eq_true hQ
         have e1:decide (5< aA.length)=true:=decide_eq_true (by omega)
         clear hQ
         have HC12:=am H
         clear H
         go_enter Tryz.func12,Tryz.ntmps12
         try go_wp2_with (first|((with_reducible refine gate_dst (N:=2) rfl ?_);refine box_event ?hg (N:=2) ?hd (cs:=#[i6 0,i6 0,i6 0,i6 0,i6 0,i6 0,i6 0,i6 0,i6 0,.slice none 0 0,.string (⟨#[]⟩:ByteArray),i6 0]) (t:=28) ?hr ?_;(case hd=> rfl);(case hg=> rfl);(case hr=> (go_simp;done));intro a3 hg pR hbox hb;have aE:=am (hbox);have e2:=am (gsz hg HB.out);have bV:=am (gsz hg HB.out);replace HB:=am (below_step (HB.out) hb);clear hb hbox hg)|((with_reducible refine gate_callee (f:=31) rfl ?_);refine goesL_ (some 28) rfl rfl Tryz.func31 (by kernel_rfl) rfl #[.string a0,i6 0,i6 1] rfl (by(try simp only[l_m,l_c,l_n]);rfl) ?_;(with_reducible refine(ententeref02_Open.calls k a0 0 1 a2 fD d6 _ A2.out).mono ?_);rintro e pS ⟨rfl,hb⟩;refine⟨_,rfl,?_⟩;replace aE:=am (blk_below aE.out hb);replace HB:=am (below_step (HB.out) hb);clear hb)|((with_reducible refine gate_callee (f:=32) rfl ?_);refine goesL_ (some 38) rfl rfl Tryz.func32 (by kernel_rfl) rfl #[.string a2,i6 0,i6 6] rfl (by(try simp only[l_m,l_c,l_n]);rfl) ?_;(with_reducible refine(ententeref13_numbers.calls k a2 0 6 aA dI true _ A4.out).mono ?_);rintro e pC ⟨v451,rfl,ho0,hb⟩;refine⟨_,rfl,?_⟩;have aD:=am (Kd.R_lower ho0 (below_size (HB.out)));replace aE:=am (blk_below aE.out hb);replace HB:=am (below_step (HB.out) hb);clear hb ho0))
         have e3:=am (Kd.R_drew aD.out)
         have e4:=am (blk_drew aE.out)
         have e5:=am (below_drew1 HB.out)
         clear aD aE HB
         have aD:=e3
         have aE:=e4
         have HB:=e5
         clear e3 e4 e5
         obtain⟨pD,pE,eo17⟩:=Kd.R_slice aD.out
         (subst eo17)
         have dJ:0≤(0:Int):=(by omega)
         have dK:0< (aA.length:Int):=of_decide_eq_true (by(with_reducible assumption))
         obtain⟨bA,e453,bM⟩:=Kd.at_int (Kd.R_reads' aD.out).2.2 0 dJ dK
         cases e453
         have n5:(0< aA.length)=True:=eq_true (by omega)
         (try rw[show((0:Int)).toNat=0 from rfl]at bM)
         (try rw[Addr.add_zero']at bM)
         replace dJ:=eq_true dJ
         replace dK:=eq_true dK
         have dL:0≤(1:Int):=(by omega)
         have dM:1< (aA.length:Int):=of_decide_eq_true (by(with_reducible assumption))
         obtain⟨fZ,e454,bN⟩:=Kd.at_int (Kd.R_reads' aD.out).2.2 1 dL dM
         obtain rfl:bA=fZ:=(by injection e454)
         (try simp only[show(1:Int).toNat=1 from rfl,Nat.reduceMul,Nat.reduceEqDiff,Go.Addr.add,↓reduceIte]at bN)
         have n6:(1< aA.length)=True:=eq_true (by omega)
         (try rw[show((1:Int)).toNat=1 from rfl]at bN)
         replace dL:=eq_true dL
         replace dM:=eq_true dM
         have dN:0≤(2:Int):=(by omega)
         have dO:2< (aA.length:Int):=of_decide_eq_true (by(with_reducible assumption))
         obtain⟨f0,e455,bO⟩:=Kd.at_int (Kd.R_reads' aD.out).2.2 2 dN dO
         obtain rfl:bA=f0:=(by injection e455)
         (try simp only[show(2:Int).toNat=2 from rfl,Nat.reduceMul,Nat.reduceEqDiff,Go.Addr.add,↓reduceIte]at bO)
         have n7:(2< aA.length)=True:=eq_true (by omega)
         (try rw[show((2:Int)).toNat=2 from rfl]at bO)
         replace dN:=eq_true dN
         replace dO:=eq_true dO
         have dP:0≤(3:Int):=(by omega)
         have dQ:3< (aA.length:Int):=of_decide_eq_true (by(with_reducible assumption))
         obtain⟨f1,e456,bP⟩:=Kd.at_int (Kd.R_reads' aD.out).2.2 3 dP dQ
         obtain rfl:bA=f1:=(by injection e456)
         (try simp only[show(3:Int).toNat=3 from rfl,Nat.reduceMul,Nat.reduceEqDiff,Go.Addr.add,↓reduceIte]at bP)
         have n8:(3< aA.length)=True:=eq_true (by omega)
         (try rw[show((3:Int)).toNat=3 from rfl]at bP)
         replace dP:=eq_true dP
         replace dQ:=eq_true dQ
         have dR:0≤(4:Int):=(by omega)
         have dS:4< (aA.length:Int):=of_decide_eq_true (by(with_reducible assumption))
         obtain⟨f2,e457,bQ⟩:=Kd.at_int (Kd.R_reads' aD.out).2.2 4 dR dS
         obtain rfl:bA=f2:=(by injection e457)
         (try simp only[show(4:Int).toNat=4 from rfl,Nat.reduceMul,Nat.reduceEqDiff,Go.Addr.add,↓reduceIte]at bQ)
         have n9:(4< aA.length)=True:=eq_true (by omega)
         (try rw[show((4:Int)).toNat=4 from rfl]at bQ)
         replace dR:=eq_true dR
         replace dS:=eq_true dS
         have dT:0≤(5:Int):=(by omega)
         have dU:5< (aA.length:Int):=of_decide_eq_true (by(with_reducible assumption))
         obtain⟨f3,e458,bR⟩:=Kd.at_int (Kd.R_reads' aD.out).2.2 5 dT dU
         obtain rfl:bA=f3:=(by injection e458)
         (try simp only[show(5:Int).toNat=5 from rfl,Nat.reduceMul,Nat.reduceEqDiff,Go.Addr.add,↓reduceIte]at bR)
         have oA:(5< aA.length)=True:=eq_true (by omega)
         (try rw[show((5:Int)).toNat=5 from rfl]at bR)
         replace dT:=eq_true dT
         replace dU:=eq_true dU
         refine start_ (n:=21) (S:=fun w'=> w'.cell? bA=some (i6 (rd aA 0))∧w'.cell? ⟨bA.block,bA.off+1,none⟩=some (i6 (rd aA 1))∧w'.cell? ⟨bA.block,bA.off+2,none⟩=some (i6 (rd aA 2))∧w'.cell? ⟨bA.block,bA.off+3,none⟩=some (i6 (rd aA 3))∧w'.cell? ⟨bA.block,bA.off+4,none⟩=some (i6 (rd aA 4))∧w'.cell? ⟨bA.block,bA.off+5,none⟩=some (i6 (rd aA 5))) (ds:=[]) (rl [0,21]) (by kernel_rfl) rfl rfl ⟨bM,bN,bO,bP,bQ,bR⟩ (fun hHeld=> ?_);refine with_tabW ententeref13_Decode.tab7 ententeref13_Decode.bits7 (fun HT_ HW_=> ?_)
         generalize pC.drew=pT at aD aE HB bM bN bO bP bQ bR hHeld ⊢
         refine pure_ (i:=0) (N:=some 45) (v:=?_) (a':=?_) (rl [1,20]) rfl rfl (any_of HT_.out (by kernel_rfl)) (fun _ _ _ h=> h) (Or.inl ⟨by rfl,?_⟩) ?_ ?_
         rotate_left
         ·intro w'
          go_simp
          with_reducible rfl
         rotate_left
         ·simp only[Act.put,l_a,l_z,l_s,i64_w,i32_w]
          rfl
         refine pure_ (i:=1) (N:=some 46) (v:=?_) (a':=?_) (rl [2,19]) rfl rfl (any_of HT_.out (by kernel_rfl)) (fun _ _ _ h=> h) (Or.inl ⟨by rfl,?_⟩) ?_ ?_
         rotate_left
         ·intro w'
          go_simp
          with_reducible rfl
         rotate_left
         ·simp only[Act.put,l_a,l_z,l_s,i64_w,i32_w]
          rfl
         refine pure_ (i:=3) (N:=some 48) (v:=?_) (a':=?_) (rl [2,1,1,17]) rfl rfl (any_of HT_.out (by kernel_rfl)) (fun _ _ _ h=> h) (Or.inl ⟨by rfl,?_⟩) ?_ ?_
         rotate_left
         ·intro w'
          go_simp
          with_reducible rfl
         rotate_left
         ·simp only[Act.put,l_a,l_z,l_s,i64_w,i32_w]
          rfl
         refine pure_ (i:=4) (N:=some 49) (v:=?_) (a':=?_) (rl [2,1,2,16]) rfl rfl (any_of HT_.out (by kernel_rfl)) (fun _ _ _ h=> h) (Or.inl ⟨by rfl,?_⟩) ?_ ?_
         rotate_left
         ·intro w'
          go_simp
          with_reducible rfl
         rotate_left
         ·simp only[Act.put,l_a,l_z,l_s,i64_w,i32_w]
          rfl
         refine pure_ (i:=6) (N:=some 51) (v:=?_) (a':=?_) (rl [2,1,2,1,1,14]) rfl rfl (any_of HT_.out (by kernel_rfl)) (fun _ _ _ h=> h) (Or.inl ⟨by rfl,?_⟩) ?_ ?_
         rotate_left
         ·intro w'
          go_simp
          with_reducible rfl
         rotate_left
         ·simp only[Act.put,l_a,l_z,l_s,i64_w,i32_w]
          rfl
         refine pure_ (i:=7) (N:=some 52) (v:=?_) (a':=?_) (rl [2,1,2,1,2,13]) rfl rfl (any_of HT_.out (by kernel_rfl)) (fun _ _ _ h=> h) (Or.inl ⟨by rfl,?_⟩) ?_ ?_
         rotate_left
         ·intro w'
          go_simp
          with_reducible rfl
         rotate_left
         ·simp only[Act.put,l_a,l_z,l_s,i64_w,i32_w]
          rfl
         refine pure_ (i:=9) (N:=some 54) (v:=?_) (a':=?_) (rl [2,1,2,1,2,1,1,11]) rfl rfl (any_of HT_.out (by kernel_rfl)) (fun _ _ _ h=> h) (Or.inl ⟨by rfl,?_⟩) ?_ ?_
         rotate_left
         ·intro w'
          go_simp
          with_reducible rfl
         rotate_left
         ·simp only[Act.put,l_a,l_z,l_s,i64_w,i32_w]
          rfl
         refine pure_ (i:=10) (N:=some 55) (v:=?_) (a':=?_) (rl [2,1,2,1,2,1,2,10]) rfl rfl (any_of HT_.out (by kernel_rfl)) (fun _ _ _ h=> h) (Or.inl ⟨by rfl,?_⟩) ?_ ?_
         rotate_left
         ·intro w'
          go_simp
          with_reducible rfl
         rotate_left
         ·simp only[Act.put,l_a,l_z,l_s,i64_w,i32_w]
          rfl
         refine pure_ (i:=12) (N:=some 57) (v:=?_) (a':=?_) (rl [2,1,2,1,2,1,2,1,1,8]) rfl rfl (any_of HT_.out (by kernel_rfl)) (fun _ _ _ h=> h) (Or.inl ⟨by rfl,?_⟩) ?_ ?_
         rotate_left
         ·intro w'
          go_simp
          with_reducible rfl
         rotate_left
         ·simp only[Act.put,l_a,l_z,l_s,i64_w,i32_w]
          rfl
         refine pure_ (i:=13) (N:=some 58) (v:=?_) (a':=?_) (rl [2,1,2,1,2,1,2,1,2,7]) rfl rfl (any_of HT_.out (by kernel_rfl)) (fun _ _ _ h=> h) (Or.inl ⟨by rfl,?_⟩) ?_ ?_
         rotate_left
         ·intro w'
          go_simp
          with_reducible rfl
         rotate_left
         ·simp only[Act.put,l_a,l_z,l_s,i64_w,i32_w]
          rfl
         refine pure_ (i:=15) (N:=some 60) (v:=?_) (a':=?_) (rl [2,1,2,1,2,1,2,1,2,1,1,5]) rfl rfl (any_of HT_.out (by kernel_rfl)) (fun _ _ _ h=> h) (Or.inl ⟨by rfl,?_⟩) ?_ ?_
         rotate_left
         ·intro w'
          go_simp
          with_reducible rfl
         rotate_left
         ·simp only[Act.put,l_a,l_z,l_s,i64_w,i32_w]
          rfl
         refine pure_ (i:=16) (N:=some 61) (v:=?_) (a':=?_) (rl [2,1,2,1,2,1,2,1,2,1,2,4]) rfl rfl (any_of HT_.out (by kernel_rfl)) (fun _ _ _ h=> h) (Or.inl ⟨by rfl,?_⟩) ?_ ?_
         rotate_left
         ·intro w'
          go_simp
          with_reducible rfl
         rotate_left
         ·simp only[Act.put,l_a,l_z,l_s,i64_w,i32_w]
          rfl
         refine take_ (i:=2) (N:=some 47) (v:=?_) (a':=?_) (rl [5,1,2,1,2,1,2,1,2,4]) rfl rfl (take_ofW HT_.out HW_.out (by kernel_rfl)) (fun _ _ _ h=> h) (Or.inl ⟨by rfl,?_⟩) hHeld ?_ ?_
         rotate_left
         ·rintro w' ⟨s0,s1,s2,s3,s4,s5⟩
          go_simp
          with_reducible rfl
         rotate_left
         ·simp only[Act.put,l_a,l_z,l_s,i64_w,i32_w]
          rfl
         refine take_ (i:=5) (N:=some 50) (v:=?_) (a':=?_) (rl [8,1,2,1,2,1,2,4]) rfl rfl (take_ofW HT_.out HW_.out (by kernel_rfl)) (fun _ _ _ h=> h) (Or.inl ⟨by rfl,?_⟩) hHeld ?_ ?_
         rotate_left
         ·rintro w' ⟨s0,s1,s2,s3,s4,s5⟩
          go_simp
          with_reducible rfl
         rotate_left
         ·simp only[Act.put,l_a,l_z,l_s,i64_w,i32_w]
          rfl
         refine take_ (i:=8) (N:=some 53) (v:=?_) (a':=?_) (rl [11,1,2,1,2,4]) rfl rfl (take_ofW HT_.out HW_.out (by kernel_rfl)) (fun _ _ _ h=> h) (Or.inl ⟨by rfl,?_⟩) hHeld ?_ ?_
         rotate_left
         ·rintro w' ⟨s0,s1,s2,s3,s4,s5⟩
          go_simp
          with_reducible rfl
         rotate_left
         ·simp only[Act.put,l_a,l_z,l_s,i64_w,i32_w]
          rfl
         refine take_ (i:=11) (N:=some 56) (v:=?_) (a':=?_) (rl [14,1,2,4]) rfl rfl (take_ofW HT_.out HW_.out (by kernel_rfl)) (fun _ _ _ h=> h) (Or.inl ⟨by rfl,?_⟩) hHeld ?_ ?_
         rotate_left
         ·rintro w' ⟨s0,s1,s2,s3,s4,s5⟩
          go_simp
          with_reducible rfl
         rotate_left
         ·simp only[Act.put,l_a,l_z,l_s,i64_w,i32_w]
          rfl
         refine take_ (i:=14) (N:=some 59) (v:=?_) (a':=?_) (rl [17,4]) rfl rfl (take_ofW HT_.out HW_.out (by kernel_rfl)) (fun _ _ _ h=> h) (Or.inl ⟨by rfl,?_⟩) hHeld ?_ ?_
         rotate_left
         ·rintro w' ⟨s0,s1,s2,s3,s4,s5⟩
          go_simp
          with_reducible rfl
         rotate_left
         ·simp only[Act.put,l_a,l_z,l_s,i64_w,i32_w]
          rfl
         refine take_ (i:=17) (N:=some 62) (v:=?_) (a':=?_) (rl [18,3]) rfl rfl (take_ofW HT_.out HW_.out (by kernel_rfl)) (fun _ _ _ h=> h) (Or.inl ⟨by rfl,?_⟩) hHeld ?_ ?_
         rotate_left
         ·rintro w' ⟨s0,s1,s2,s3,s4,s5⟩
          go_simp
          with_reducible rfl
         rotate_left
         ·simp only[Act.put,l_a,l_z,l_s,i64_w,i32_w]
          rfl
         refine pure_ (i:=18) (N:=some 63) (v:=?_) (a':=?_) (rl [19,2]) rfl rfl (any_of HT_.out (by kernel_rfl)) (fun _ _ _ h=> h) (Or.inl ⟨by rfl,?_⟩) ?_ ?_
         rotate_left
         ·intro w'
          go_simp
          with_reducible rfl
         rotate_left
         ·simp only[Act.put,l_a,l_z,l_s,i64_w,i32_w]
          rfl
         refine one_ (i:=19) (N:=some 10) (rl [20,1]) rfl rfl (one_of HT_.out (by kernel_rfl)) (by decide) (fun K hK=> ?_)
         refine box_step ?hg (N:=10) ?hd (cs:=#[i6 0,i6 0,i6 0,i6 0,i6 0,i6 0,i6 0,i6 0,i6 0,.slice none 0 0,.string (⟨#[]⟩:ByteArray),i6 0]) (t:=28) ?hr ?_;(case hd=> rfl);(case hg=> rfl);(case hr=> (go_simp;done))
         intro aC hg dH hbox hb
         have HS0_:=(hb.cell (World.block_lt_of_cell? _ _ (hHeld.1))).trans (hHeld.1)
         have HS1_:=(hb.cell (World.block_lt_of_cell? _ _ (hHeld.2.1))).trans (hHeld.2.1)
         have HS2_:=(hb.cell (World.block_lt_of_cell? _ _ (hHeld.2.2.1))).trans (hHeld.2.2.1)
         have HS3_:=(hb.cell (World.block_lt_of_cell? _ _ (hHeld.2.2.2.1))).trans (hHeld.2.2.2.1)
         have HS4_:=(hb.cell (World.block_lt_of_cell? _ _ (hHeld.2.2.2.2.1))).trans (hHeld.2.2.2.2.1)
         have HS5_:=(hb.cell (World.block_lt_of_cell? _ _ (hHeld.2.2.2.2.2))).trans (hHeld.2.2.2.2.2)
         have e3:=am (Kd.R_below (by exact aD.out) hb)
         have e4:=am (blk_below aE.out hb)
         have e5:=am (below_step (HB.out) hb)
         have f4:=am (hbox)
         have f5:=am (gsz hg HB.out)
         have f6:=am (gsz hg HB.out)
         have f7:=am ((by rw[hg];exact Nat.ne_of_lt (blk_lt aE.out):a3≠aC))
         have oB:=am ((by rw[hg];exact Nat.ne_of_gt (blk_lt aE.out):aC≠a3))
         clear aD aE HB
         have aD:=e3
         have aE:=e4
         have HB:=e5
         have aB:=f4
         have oC:=f5
         have cL:=f6
         have aH:=f7
         have aI:=oB
         clear e3 e4 e5 f4 f5 f6 f7 oB
         clear hb hbox hg
         refine hK.out _ _ ⟨HS0_,HS1_,HS2_,HS3_,HS4_,HS5_⟩ (fun hHeld=> ?_)
         clear hK K
         refine norm_ (a':=?_) ?_ ?_
         rotate_left
         ·show Act.put _ (some 10) _=_
          simp only[Act.put,l_a,l_z,l_s,i64_w,i32_w]
          rfl
         refine one_ (i:=20) (N:=none) (rl [21]) rfl rfl (one_of HT_.out (by kernel_rfl)) (by decide) (fun K hK=> ?_)
         have hs19:dH.cell? ⟨aC,0,none⟩=some (i6 0):=(blk_cell aB.out 0).trans rfl
         have hfs19:=blk_frozen aB.out 0
         have hR:=aH.out
         have hS:=aI.out
         have hs20:dH.cell? ⟨aC,1,none⟩=some (i6 0):=(blk_cell aB.out 1).trans rfl
         have hfs20:=blk_frozen aB.out 1
         have hT:=aH.out
         have hU:=aI.out
         have hs21:dH.cell? ⟨aC,2,none⟩=some (i6 0):=(blk_cell aB.out 2).trans rfl
         have hfs21:=blk_frozen aB.out 2
         have hV:=aH.out
         have hW:=aI.out
         have hs22:dH.cell? ⟨aC,3,none⟩=some (i6 0):=(blk_cell aB.out 3).trans rfl
         have hfs22:=blk_frozen aB.out 3
         have hX:=aH.out
         have hY:=aI.out
         have hs23:dH.cell? ⟨aC,4,none⟩=some (i6 0):=(blk_cell aB.out 4).trans rfl
         have hfs23:=blk_frozen aB.out 4
         have hZ:=aH.out
         have h0:=aI.out
         have hs24:dH.cell? ⟨aC,5,none⟩=some (i6 0):=(blk_cell aB.out 5).trans rfl
         have hfs24:=blk_frozen aB.out 5
         have h1:=aH.out
         have h2:=aI.out
         have hs25:dH.cell? ⟨aC,6,none⟩=some (i6 0):=(blk_cell aB.out 6).trans rfl
         have hfs25:=blk_frozen aB.out 6
         have h3:=aH.out
         have h4:=aI.out
         have hs26:dH.cell? ⟨aC,7,none⟩=some (i6 0):=(blk_cell aB.out 7).trans rfl
         have hfs26:=blk_frozen aB.out 7
         have h5:=aH.out
         have h6:=aI.out
         have hs27:dH.cell? ⟨aC,8,none⟩=some (i6 0):=(blk_cell aB.out 8).trans rfl
         have hfs27:=blk_frozen aB.out 8
         have h7:=aH.out
         have h8:=aI.out
         have hs28:dH.cell? ⟨aC,9,none⟩=some (.slice none 0 0):=(blk_cell aB.out 9).trans rfl
         have hfs28:=blk_frozen aB.out 9
         have h9:=aH.out
         have iA:=aI.out
         have hs29:dH.cell? ⟨aC,10,none⟩=some (.string (⟨#[]⟩:ByteArray)):=(blk_cell aB.out 10).trans rfl
         have hfs29:=blk_frozen aB.out 10
         have iB:=aH.out
         have iC:=aI.out
         have hs30:dH.cell? ⟨aC,11,none⟩=some (i6 0):=(blk_cell aB.out 11).trans rfl
         have hfs30:=blk_frozen aB.out 11
         have iD:=aH.out
         have iE:=aI.out
         refine skip_ (w1:=?_) (by rfl) rfl ?_ ?_
         rotate_left
         ·go_simp
          rfl
         refine hK.out _ _ ⟨((cell_far (p:=⟨aC,_,none⟩) (by exact Kd.own_blk (Kd.R_ne aD.out aB.out (by decide))) _).trans (((cell_far (p:=⟨aC,_,none⟩) (by exact Kd.own_blk (Kd.R_ne aD.out aB.out (by decide))) _).trans (((cell_far (p:=⟨aC,_,none⟩) (by exact Kd.own_blk (Kd.R_ne aD.out aB.out (by decide))) _).trans (((cell_far (p:=⟨aC,_,none⟩) (by exact Kd.own_blk (Kd.R_ne aD.out aB.out (by decide))) _).trans (((cell_far (p:=⟨aC,_,none⟩) (by exact Kd.own_blk (Kd.R_ne aD.out aB.out (by decide))) _).trans (((cell_far (p:=⟨aC,_,none⟩) (by exact Kd.own_blk (Kd.R_ne aD.out aB.out (by decide))) _).trans (((cell_far (p:=⟨aC,_,none⟩) (by exact Kd.own_blk (Kd.R_ne aD.out aB.out (by decide))) _).trans (((cell_far (p:=⟨aC,_,none⟩) (by exact Kd.own_blk (Kd.R_ne aD.out aB.out (by decide))) _).trans (((cell_far (p:=⟨aC,_,none⟩) (by exact Kd.own_blk (Kd.R_ne aD.out aB.out (by decide))) _).trans (((cell_far (p:=⟨aC,_,none⟩) (by exact Kd.own_blk (Kd.R_ne aD.out aB.out (by decide))) _).trans (((cell_far (p:=⟨aC,_,none⟩) (by exact Kd.own_blk (Kd.R_ne aD.out aB.out (by decide))) _).trans (((cell_far (p:=⟨aC,_,none⟩) (by exact Kd.own_blk (Kd.R_ne aD.out aB.out (by decide))) _).trans (hHeld.1)))))))))))))))))))))))),((cell_far (p:=⟨aC,_,none⟩) (by(dsimp only;exact Kd.own_blk (Kd.R_ne aD.out aB.out (by decide)))) _).trans (((cell_far (p:=⟨aC,_,none⟩) (by(dsimp only;exact Kd.own_blk (Kd.R_ne aD.out aB.out (by decide)))) _).trans (((cell_far (p:=⟨aC,_,none⟩) (by(dsimp only;exact Kd.own_blk (Kd.R_ne aD.out aB.out (by decide)))) _).trans (((cell_far (p:=⟨aC,_,none⟩) (by(dsimp only;exact Kd.own_blk (Kd.R_ne aD.out aB.out (by decide)))) _).trans (((cell_far (p:=⟨aC,_,none⟩) (by(dsimp only;exact Kd.own_blk (Kd.R_ne aD.out aB.out (by decide)))) _).trans (((cell_far (p:=⟨aC,_,none⟩) (by(dsimp only;exact Kd.own_blk (Kd.R_ne aD.out aB.out (by decide)))) _).trans (((cell_far (p:=⟨aC,_,none⟩) (by(dsimp only;exact Kd.own_blk (Kd.R_ne aD.out aB.out (by decide)))) _).trans (((cell_far (p:=⟨aC,_,none⟩) (by(dsimp only;exact Kd.own_blk (Kd.R_ne aD.out aB.out (by decide)))) _).trans (((cell_far (p:=⟨aC,_,none⟩) (by(dsimp only;exact Kd.own_blk (Kd.R_ne aD.out aB.out (by decide)))) _).trans (((cell_far (p:=⟨aC,_,none⟩) (by(dsimp only;exact Kd.own_blk (Kd.R_ne aD.out aB.out (by decide)))) _).trans (((cell_far (p:=⟨aC,_,none⟩) (by(dsimp only;exact Kd.own_blk (Kd.R_ne aD.out aB.out (by decide)))) _).trans (((cell_far (p:=⟨aC,_,none⟩) (by(dsimp only;exact Kd.own_blk (Kd.R_ne aD.out aB.out (by decide)))) _).trans (hHeld.2.1)))))))))))))))))))))))),((cell_far (p:=⟨aC,_,none⟩) (by(dsimp only;exact Kd.own_blk (Kd.R_ne aD.out aB.out (by decide)))) _).trans (((cell_far (p:=⟨aC,_,none⟩) (by(dsimp only;exact Kd.own_blk (Kd.R_ne aD.out aB.out (by decide)))) _).trans (((cell_far (p:=⟨aC,_,none⟩) (by(dsimp only;exact Kd.own_blk (Kd.R_ne aD.out aB.out (by decide)))) _).trans (((cell_far (p:=⟨aC,_,none⟩) (by(dsimp only;exact Kd.own_blk (Kd.R_ne aD.out aB.out (by decide)))) _).trans (((cell_far (p:=⟨aC,_,none⟩) (by(dsimp only;exact Kd.own_blk (Kd.R_ne aD.out aB.out (by decide)))) _).trans (((cell_far (p:=⟨aC,_,none⟩) (by(dsimp only;exact Kd.own_blk (Kd.R_ne aD.out aB.out (by decide)))) _).trans (((cell_far (p:=⟨aC,_,none⟩) (by(dsimp only;exact Kd.own_blk (Kd.R_ne aD.out aB.out (by decide)))) _).trans (((cell_far (p:=⟨aC,_,none⟩) (by(dsimp only;exact Kd.own_blk (Kd.R_ne aD.out aB.out (by decide)))) _).trans (((cell_far (p:=⟨aC,_,none⟩) (by(dsimp only;exact Kd.own_blk (Kd.R_ne aD.out aB.out (by decide)))) _).trans (((cell_far (p:=⟨aC,_,none⟩) (by(dsimp only;exact Kd.own_blk (Kd.R_ne aD.out aB.out (by decide)))) _).trans (((cell_far (p:=⟨aC,_,none⟩) (by(dsimp only;exact Kd.own_blk (Kd.R_ne aD.out aB.out (by decide)))) _).trans (((cell_far (p:=⟨aC,_,none⟩) (by(dsimp only;exact Kd.own_blk (Kd.R_ne aD.out aB.out (by decide)))) _).trans (hHeld.2.2.1)))))))))))))))))))))))),((cell_far (p:=⟨aC,_,none⟩) (by(dsimp only;exact Kd.own_blk (Kd.R_ne aD.out aB.out (by decide)))) _).trans (((cell_far (p:=⟨aC,_,none⟩) (by(dsimp only;exact Kd.own_blk (Kd.R_ne aD.out aB.out (by decide)))) _).trans (((cell_far (p:=⟨aC,_,none⟩) (by(dsimp only;exact Kd.own_blk (Kd.R_ne aD.out aB.out (by decide)))) _).trans (((cell_far (p:=⟨aC,_,none⟩) (by(dsimp only;exact Kd.own_blk (Kd.R_ne aD.out aB.out (by decide)))) _).trans (((cell_far (p:=⟨aC,_,none⟩) (by(dsimp only;exact Kd.own_blk (Kd.R_ne aD.out aB.out (by decide)))) _).trans (((cell_far (p:=⟨aC,_,none⟩) (by(dsimp only;exact Kd.own_blk (Kd.R_ne aD.out aB.out (by decide)))) _).trans (((cell_far (p:=⟨aC,_,none⟩) (by(dsimp only;exact Kd.own_blk (Kd.R_ne aD.out aB.out (by decide)))) _).trans (((cell_far (p:=⟨aC,_,none⟩) (by(dsimp only;exact Kd.own_blk (Kd.R_ne aD.out aB.out (by decide)))) _).trans (((cell_far (p:=⟨aC,_,none⟩) (by(dsimp only;exact Kd.own_blk (Kd.R_ne aD.out aB.out (by decide)))) _).trans (((cell_far (p:=⟨aC,_,none⟩) (by(dsimp only;exact Kd.own_blk (Kd.R_ne aD.out aB.out (by decide)))) _).trans (((cell_far (p:=⟨aC,_,none⟩) (by(dsimp only;exact Kd.own_blk (Kd.R_ne aD.out aB.out (by decide)))) _).trans (((cell_far (p:=⟨aC,_,none⟩) (by(dsimp only;exact Kd.own_blk (Kd.R_ne aD.out aB.out (by decide)))) _).trans (hHeld.2.2.2.1)))))))))))))))))))))))),((cell_far (p:=⟨aC,_,none⟩) (by(dsimp only;exact Kd.own_blk (Kd.R_ne aD.out aB.out (by decide)))) _).trans (((cell_far (p:=⟨aC,_,none⟩) (by(dsimp only;exact Kd.own_blk (Kd.R_ne aD.out aB.out (by decide)))) _).trans (((cell_far (p:=⟨aC,_,none⟩) (by(dsimp only;exact Kd.own_blk (Kd.R_ne aD.out aB.out (by decide)))) _).trans (((cell_far (p:=⟨aC,_,none⟩) (by(dsimp only;exact Kd.own_blk (Kd.R_ne aD.out aB.out (by decide)))) _).trans (((cell_far (p:=⟨aC,_,none⟩) (by(dsimp only;exact Kd.own_blk (Kd.R_ne aD.out aB.out (by decide)))) _).trans (((cell_far (p:=⟨aC,_,none⟩) (by(dsimp only;exact Kd.own_blk (Kd.R_ne aD.out aB.out (by decide)))) _).trans (((cell_far (p:=⟨aC,_,none⟩) (by(dsimp only;exact Kd.own_blk (Kd.R_ne aD.out aB.out (by decide)))) _).trans (((cell_far (p:=⟨aC,_,none⟩) (by(dsimp only;exact Kd.own_blk (Kd.R_ne aD.out aB.out (by decide)))) _).trans (((cell_far (p:=⟨aC,_,none⟩) (by(dsimp only;exact Kd.own_blk (Kd.R_ne aD.out aB.out (by decide)))) _).trans (((cell_far (p:=⟨aC,_,none⟩) (by(dsimp only;exact Kd.own_blk (Kd.R_ne aD.out aB.out (by decide)))) _).trans (((cell_far (p:=⟨aC,_,none⟩) (by(dsimp only;exact Kd.own_blk (Kd.R_ne aD.out aB.out (by decide)))) _).trans (((cell_far (p:=⟨aC,_,none⟩) (by(dsimp only;exact Kd.own_blk (Kd.R_ne aD.out aB.out (by decide)))) _).trans (hHeld.2.2.2.2.1)))))))))))))))))))))))),((cell_far (p:=⟨aC,_,none⟩) (by(dsimp only;exact Kd.own_blk (Kd.R_ne aD.out aB.out (by decide)))) _).trans (((cell_far (p:=⟨aC,_,none⟩) (by(dsimp only;exact Kd.own_blk (Kd.R_ne aD.out aB.out (by decide)))) _).trans (((cell_far (p:=⟨aC,_,none⟩) (by(dsimp only;exact Kd.own_blk (Kd.R_ne aD.out aB.out (by decide)))) _).trans (((cell_far (p:=⟨aC,_,none⟩) (by(dsimp only;exact Kd.own_blk (Kd.R_ne aD.out aB.out (by decide)))) _).trans (((cell_far (p:=⟨aC,_,none⟩) (by(dsimp only;exact Kd.own_blk (Kd.R_ne aD.out aB.out (by decide)))) _).trans (((cell_far (p:=⟨aC,_,none⟩) (by(dsimp only;exact Kd.own_blk (Kd.R_ne aD.out aB.out (by decide)))) _).trans (((cell_far (p:=⟨aC,_,none⟩) (by(dsimp only;exact Kd.own_blk (Kd.R_ne aD.out aB.out (by decide)))) _).trans (((cell_far (p:=⟨aC,_,none⟩) (by(dsimp only;exact Kd.own_blk (Kd.R_ne aD.out aB.out (by decide)))) _).trans (((cell_far (p:=⟨aC,_,none⟩) (by(dsimp only;exact Kd.own_blk (Kd.R_ne aD.out aB.out (by decide)))) _).trans (((cell_far (p:=⟨aC,_,none⟩) (by(dsimp only;exact Kd.own_blk (Kd.R_ne aD.out aB.out (by decide)))) _).trans (((cell_far (p:=⟨aC,_,none⟩) (by(dsimp only;exact Kd.own_blk (Kd.R_ne aD.out aB.out (by decide)))) _).trans (((cell_far (p:=⟨aC,_,none⟩) (by(dsimp only;exact Kd.own_blk (Kd.R_ne aD.out aB.out (by decide)))) _).trans (hHeld.2.2.2.2.2))))))))))))))))))))))))⟩ (fun hHeld=> ?_)
         clear hK K
         refine done_ (done_of HT_.out (by kernel_rfl)) ?_
         have oD:=aI.out
         have oE:=aH.out
         obtain⟨cM,cN,cO,cP,cQ,cR,cS,cT,cU,cV,b8,b9⟩:=bc12 aB.out
         obtain⟨cW,cX,cY,cZ,c0,c1,dA,dB,dC,dD,cA,cB⟩:=bf12 aB.out
         go_upto_if 66 with(fail)
         go_cut [] (fun wc=> ∃ (kq:Nat) (bH:Int) (aY:Int) (aW:Int) (aT:Int) (aP:Int) (aN:Int) (aM:Int) (aL:Int) (aK:Int) (aG:ByteArray) (aF:Int) (aO:Int) (aQ:Int) (aS:Int) (aR:List (S46)) (aU:ByteArray) (aX:Int) (u460009:Value),Aside0 (ententeref13_Decode.j2 kq a0 (rd aA 0) (rd aA 1) (rd aA 2) (rd aA 3) (rd aA 4) (rd aA 5) aO aQ aS aR aU aX=some (r1,r2,r3,r4,r5,r6,r7,r8,r9,r10,r11,r12,r13))∧Aside0 (kq≤k)∧Aside0 (Kd.R k46 46 wc w.heap.size (fun _=> True) u460009 aR)∧Aside0 (wc.heap[a3]?=some (.cells #[i6 bH,i6 aY,i6 aW,i6 aT,i6 aP,i6 aN,i6 aM,i6 aL,i6 aK,(.slice none 0 0),.string aG,i6 aF] 28 (0,0)))∧Aside0 (wc.heap[aC]?=some (.cells #[i6 (rd aA 0),i6 (rd aA 1),i6 (rd aA 2),i6 (rd aA 3),i6 (rd aA 4),i6 (rd aA 5),i6 aO,i6 aQ,i6 aS,u460009,.string aU,i6 aX] 28 (0,0)))∧Aside0 (Below w.heap.size w wc))
         case first=>
          have H:=HC12.out
          clear HC12
          by_cases e6:(rd aA 3)=0
          ·rw[if_pos e6]at H
           have e7:=beq_iff_eq.mpr e6
           have e8:=bne_eq_false_iff_eq.mpr e6
           clear e6
           (skip)
           have H':=am H
           clear H
           go_wp2
           go_meet
           case rel=> exact⟨_,(0),(0),(0),(0),(0),(0),(0),(0),(0),((⟨#[]⟩:ByteArray)),(0),(0),(0),(0),(([]:List (S46))),((⟨#[]⟩:ByteArray)),(0),(.slice none 0 0),H',⟨by omega⟩,⟨by exact Kd.R_nil _ _ _ _ _⟩,⟨by(iterate 12 refine blk_far ?_ aH.out _);exact aE.out⟩,⟨by refine blk_put (cs:=#[i6 (rd aA 0),i6 (rd aA 1),i6 (rd aA 2),i6 (rd aA 3),i6 (rd aA 4),i6 (rd aA 5),i6 0,i6 0,i6 0,.slice none 0 0,.string (⟨#[]⟩:ByteArray),i6 0]) ?_ 11 _ rfl;refine blk_put (cs:=#[i6 (rd aA 0),i6 (rd aA 1),i6 (rd aA 2),i6 (rd aA 3),i6 (rd aA 4),i6 (rd aA 5),i6 0,i6 0,i6 0,.slice none 0 0,.string (⟨#[]⟩:ByteArray),i6 0]) ?_ 10 _ rfl;refine blk_put (cs:=#[i6 (rd aA 0),i6 (rd aA 1),i6 (rd aA 2),i6 (rd aA 3),i6 (rd aA 4),i6 (rd aA 5),i6 0,i6 0,i6 0,.slice none 0 0,.string (⟨#[]⟩:ByteArray),i6 0]) ?_ 9 _ rfl;refine blk_put (cs:=#[i6 (rd aA 0),i6 (rd aA 1),i6 (rd aA 2),i6 (rd aA 3),i6 (rd aA 4),i6 (rd aA 5),i6 0,i6 0,i6 0,.slice none 0 0,.string (⟨#[]⟩:ByteArray),i6 0]) ?_ 8 _ rfl;refine blk_put (cs:=#[i6 (rd aA 0),i6 (rd aA 1),i6 (rd aA 2),i6 (rd aA 3),i6 (rd aA 4),i6 (rd aA 5),i6 0,i6 0,i6 0,.slice none 0 0,.string (⟨#[]⟩:ByteArray),i6 0]) ?_ 7 _ rfl;refine blk_put (cs:=#[i6 (rd aA 0),i6 (rd aA 1),i6 (rd aA 2),i6 (rd aA 3),i6 (rd aA 4),i6 (rd aA 5),i6 0,i6 0,i6 0,.slice none 0 0,.string (⟨#[]⟩:ByteArray),i6 0]) ?_ 6 _ rfl;refine blk_put (cs:=#[i6 (rd aA 0),i6 (rd aA 1),i6 (rd aA 2),i6 (rd aA 3),i6 (rd aA 4),i6 0,i6 0,i6 0,i6 0,.slice none 0 0,.string (⟨#[]⟩:ByteArray),i6 0]) ?_ 5 _ rfl;refine blk_put (cs:=#[i6 (rd aA 0),i6 (rd aA 1),i6 (rd aA 2),i6 (rd aA 3),i6 0,i6 0,i6 0,i6 0,i6 0,.slice none 0 0,.string (⟨#[]⟩:ByteArray),i6 0]) ?_ 4 _ rfl;refine blk_put (cs:=#[i6 (rd aA 0),i6 (rd aA 1),i6 (rd aA 2),i6 0,i6 0,i6 0,i6 0,i6 0,i6 0,.slice none 0 0,.string (⟨#[]⟩:ByteArray),i6 0]) ?_ 3 _ rfl;refine blk_put (cs:=#[i6 (rd aA 0),i6 (rd aA 1),i6 0,i6 0,i6 0,i6 0,i6 0,i6 0,i6 0,.slice none 0 0,.string (⟨#[]⟩:ByteArray),i6 0]) ?_ 2 _ rfl;refine blk_put (cs:=#[i6 (rd aA 0),i6 0,i6 0,i6 0,i6 0,i6 0,i6 0,i6 0,i6 0,.slice none 0 0,.string (⟨#[]⟩:ByteArray),i6 0]) ?_ 1 _ rfl;refine blk_put (cs:=#[i6 0,i6 0,i6 0,i6 0,i6 0,i6 0,i6 0,i6 0,i6 0,.slice none 0 0,.string (⟨#[]⟩:ByteArray),i6 0]) ?_ 0 _ rfl;exact aB.out⟩,⟨bs12 HB.out cL.out⟩⟩
          ·rw[if_neg e6]at H
           have e7:=beq_eq_false_iff_ne.mpr e6
           have e8:=bne_iff_ne.mpr e6
           (skip)
           obtain⟨⟨bJ,fG,f8⟩,f9,H⟩:=Option.bind_eq_some_iff.mp H
           try dsimp only at H
           have pF:=am f9
           clear f9
           obtain⟨⟨cH,cI,fH⟩,gA,H⟩:=Option.bind_eq_some_iff.mp H
           try dsimp only at H
           have pG:=am gA
           clear gA
           have HC36:=am H
           clear H
           go_upto_region 11 with(first|((with_reducible refine gate_callee (f:=32) rfl ?_);refine goesL_ (some 70) rfl rfl Tryz.func32 (by kernel_rfl) rfl #[.string a2,i6 dI,i6 1] rfl (by(try simp only[l_m,l_c,l_n]);rfl) ?_;(with_reducible refine(ententeref13_numbers.calls k a2 dI 1 bJ fG f8 _ pF.out).mono ?_);rintro e pU ⟨v463,rfl,ho0,hb⟩;refine⟨_,rfl,?_⟩;have dE:=am (Kd.R_lower (Kd.R_new' ho0 (Kd.R_lt (by exact(Kd.R_mono (rf (rf (rf (rf (rf (rf (rf (rf (rf (rf (rf (rf (Kd.R_types aD.out aB.out (by decide)))))))))))))) (fun _ h_=> h_.1))))) (below_size (bs12 HB.out cL.out)));replace aD:=am (Kd.R_elder' (by exact(Kd.R_mono (rf (rf (rf (rf (rf (rf (rf (rf (rf (rf (rf (rf (Kd.R_types aD.out aB.out (by decide)))))))))))))) (fun _ h_=> h_.1))) (Kd.R_base ho0) hb);replace aE:=am (blk_below (g:=a3) (o:=.cells #[i6 0,i6 0,i6 0,i6 0,i6 0,i6 0,i6 0,i6 0,i6 0,.slice none 0 0,.string (⟨#[]⟩:ByteArray),i6 0] 28 (0,0)) (by(iterate 12 refine blk_far ?_ aH.out _);exact aE.out) hb);replace aB:=am (blk_below (g:=aC) (o:=.cells #[i6 (rd aA 0),i6 (rd aA 1),i6 (rd aA 2),i6 (rd aA 3),i6 (rd aA 4),i6 (rd aA 5),i6 0,i6 0,i6 0,.slice none 0 0,.string (⟨#[]⟩:ByteArray),i6 0] 28 (0,0)) (by refine blk_put (cs:=#[i6 (rd aA 0),i6 (rd aA 1),i6 (rd aA 2),i6 (rd aA 3),i6 (rd aA 4),i6 (rd aA 5),i6 0,i6 0,i6 0,.slice none 0 0,.string (⟨#[]⟩:ByteArray),i6 0]) ?_ 11 _ rfl;refine blk_put (cs:=#[i6 (rd aA 0),i6 (rd aA 1),i6 (rd aA 2),i6 (rd aA 3),i6 (rd aA 4),i6 (rd aA 5),i6 0,i6 0,i6 0,.slice none 0 0,.string (⟨#[]⟩:ByteArray),i6 0]) ?_ 10 _ rfl;refine blk_put (cs:=#[i6 (rd aA 0),i6 (rd aA 1),i6 (rd aA 2),i6 (rd aA 3),i6 (rd aA 4),i6 (rd aA 5),i6 0,i6 0,i6 0,.slice none 0 0,.string (⟨#[]⟩:ByteArray),i6 0]) ?_ 9 _ rfl;refine blk_put (cs:=#[i6 (rd aA 0),i6 (rd aA 1),i6 (rd aA 2),i6 (rd aA 3),i6 (rd aA 4),i6 (rd aA 5),i6 0,i6 0,i6 0,.slice none 0 0,.string (⟨#[]⟩:ByteArray),i6 0]) ?_ 8 _ rfl;refine blk_put (cs:=#[i6 (rd aA 0),i6 (rd aA 1),i6 (rd aA 2),i6 (rd aA 3),i6 (rd aA 4),i6 (rd aA 5),i6 0,i6 0,i6 0,.slice none 0 0,.string (⟨#[]⟩:ByteArray),i6 0]) ?_ 7 _ rfl;refine blk_put (cs:=#[i6 (rd aA 0),i6 (rd aA 1),i6 (rd aA 2),i6 (rd aA 3),i6 (rd aA 4),i6 (rd aA 5),i6 0,i6 0,i6 0,.slice none 0 0,.string (⟨#[]⟩:ByteArray),i6 0]) ?_ 6 _ rfl;refine blk_put (cs:=#[i6 (rd aA 0),i6 (rd aA 1),i6 (rd aA 2),i6 (rd aA 3),i6 (rd aA 4),i6 0,i6 0,i6 0,i6 0,.slice none 0 0,.string (⟨#[]⟩:ByteArray),i6 0]) ?_ 5 _ rfl;refine blk_put (cs:=#[i6 (rd aA 0),i6 (rd aA 1),i6 (rd aA 2),i6 (rd aA 3),i6 0,i6 0,i6 0,i6 0,i6 0,.slice none 0 0,.string (⟨#[]⟩:ByteArray),i6 0]) ?_ 4 _ rfl;refine blk_put (cs:=#[i6 (rd aA 0),i6 (rd aA 1),i6 (rd aA 2),i6 0,i6 0,i6 0,i6 0,i6 0,i6 0,.slice none 0 0,.string (⟨#[]⟩:ByteArray),i6 0]) ?_ 3 _ rfl;refine blk_put (cs:=#[i6 (rd aA 0),i6 (rd aA 1),i6 0,i6 0,i6 0,i6 0,i6 0,i6 0,i6 0,.slice none 0 0,.string (⟨#[]⟩:ByteArray),i6 0]) ?_ 2 _ rfl;refine blk_put (cs:=#[i6 (rd aA 0),i6 0,i6 0,i6 0,i6 0,i6 0,i6 0,i6 0,i6 0,.slice none 0 0,.string (⟨#[]⟩:ByteArray),i6 0]) ?_ 1 _ rfl;refine blk_put (cs:=#[i6 0,i6 0,i6 0,i6 0,i6 0,i6 0,i6 0,i6 0,i6 0,.slice none 0 0,.string (⟨#[]⟩:ByteArray),i6 0]) ?_ 0 _ rfl;exact aB.out) hb);replace HB:=am (below_step (bs12 HB.out cL.out) hb);clear hb ho0)|((with_reducible refine gate_callee (f:=33) rfl ?_);refine goesL_ (some 77) rfl rfl Tryz.func33 (by kernel_rfl) rfl #[.string a2,i6 fG] rfl (by(try simp only[l_m,l_c,l_n]);rfl) ?_;(with_reducible refine(ententeref01_TakeText.calls k a2 fG cH cI fH _ pG.out).mono ?_);rintro e pV ⟨rfl,hb⟩;refine⟨_,rfl,?_⟩;replace aD:=am (Kd.R_below (by exact aD.out) hb);replace dE:=am (Kd.R_below (by exact dE.out) hb);replace aE:=am (blk_below aE.out hb);replace aB:=am (blk_below aB.out hb);replace HB:=am (below_step (HB.out) hb);clear hb))
           (try simp only[Act.put,l_a,l_z,l_s])
           go_cut [86] (fun v86 wc=> ∃ (kq:Nat) (b7:Bool),v86=.bool b7∧Aside0 (ententeref13_Decode.j0 kq a0 a2 bJ cH cI b7 (rd aA 0) (rd aA 1) (rd aA 2) (rd aA 3) (rd aA 4) (rd aA 5) 0 0 0 (⟨#[]⟩:ByteArray) 0=some (r1,r2,r3,r4,r5,r6,r7,r8,r9,r10,r11,r12,r13))∧Aside0 (kq≤k)∧Aside0 (Kd.R (Kd.int .i64) 3 wc w.heap.size (fun _=> True) v463 bJ)∧Aside0 (wc.heap[a3]?=some (.cells #[i6 0,i6 0,i6 0,i6 0,i6 0,i6 0,i6 0,i6 0,i6 0,(.slice none 0 0),.string (⟨#[]⟩:ByteArray),i6 0] 28 (0,0)))∧Aside0 (wc.heap[aC]?=some (.cells #[i6 (rd aA 0),i6 (rd aA 1),i6 (rd aA 2),i6 (rd aA 3),i6 (rd aA 4),i6 (rd aA 5),i6 0,i6 0,i6 0,(.slice none 0 0),.string (⟨#[]⟩:ByteArray),i6 0] 28 (0,0)))∧Aside0 (Below w.heap.size w wc))
           case first=>
            have H:=HC36.out
            clear HC36
            by_cases iF:f8=true
            ·subst iF
             have H1:(ententeref13_Decode.j0 k a0 a2 bJ cH cI (fH !=0) (rd aA 0) (rd aA 1) (rd aA 2) (rd aA 3) (rd aA 4) (rd aA 5) 0 0 0 (⟨#[]⟩:ByteArray) 0)=some (r1,r2,r3,r4,r5,r6,r7,r8,r9,r10,r11,r12,r13):=by rw[if_pos rfl]at H;exact H
             clear H
             have H:=H1
             clear H1
             have H':=am H
             clear H
             go_wp2
             go_meet
             case rel=> exact⟨_,((fH !=0)),(by rfl),H',⟨by omega⟩,⟨by exact Kd.R_mono dE.out (fun _ hk=> trivial)⟩,⟨by exact aE.out⟩,⟨by exact aB.out⟩,⟨HB.out⟩⟩
            ·replace iF:=Bool.eq_false_iff.mpr iF
             subst iF
             have H1:(ententeref13_Decode.j0 k a0 a2 bJ cH cI true (rd aA 0) (rd aA 1) (rd aA 2) (rd aA 3) (rd aA 4) (rd aA 5) 0 0 0 (⟨#[]⟩:ByteArray) 0)=some (r1,r2,r3,r4,r5,r6,r7,r8,r9,r10,r11,r12,r13):=by rw[if_neg (show ¬ (false=true)by decide)]at H;exact H
             clear H
             have H:=H1
             clear H1
             have H':=am H
             clear H
             go_wp2
             go_meet
             case rel=> exact⟨_,(true),(by rfl),H',⟨by omega⟩,⟨by exact Kd.R_mono dE.out (fun _ hk=> trivial)⟩,⟨by exact aE.out⟩,⟨by exact aB.out⟩,⟨HB.out⟩⟩
           case rest=>
            clear HC36 fE fF fR fS fT fU fV fW fX fY eY eZ e0 e1 e6 e7 e8 cM cN b8 b9 cO cP cQ cR cS cT cU cV cW cX cA cB cY cZ c0 c1 dA dB dC dD bM bN bO bP bQ bR dJ dL dN dP dR dT dK dM dO dQ dS dU
            obtain⟨kq,b7,rfl,HA,fI,HO_11,aE,aB,HB⟩:=hcut
            cases kq with
            |zero=> exact absurd HA.out (by simp[ententeref13_Decode.j0])
            |succ cJ=>
             have H:=HA.out
             clear HA
             simp only[ententeref13_Decode.j0]at H
             by_cases iG:b7=true
             ·subst iG
              have H1:(some (0,0,0,0,0,0,0,0,0,([]:List (S46)),(⟨#[]⟩:ByteArray),0,130))=some (r1,r2,r3,r4,r5,r6,r7,r8,r9,r10,r11,r12,r13):=by rw[if_pos rfl]at H;exact H
              clear H
              have H:=H1
              clear H1
              simp only[Option.some.injEq,Prod.mk.injEq]at H
              obtain⟨rfl,rfl,rfl,rfl,rfl,rfl,rfl,rfl,rfl,rfl,rfl,rfl,rfl⟩:=H
              have oF:=aH.out
              have oG:=aI.out
              obtain⟨iH,iI,iJ,iK,iL,iM,iN,iO,iP,iQ,gB,gC⟩:=bc12 aE.out
              obtain⟨iR,iS,iT,iU,iV,iW,iX,iY,iZ,i0,gD,gE⟩:=bf12 aE.out
              go_wp2
              refine bodyPost_ret (results_ct rfl _ _ a3 28 #[i6 0,i6 0,i6 0,i6 0,i6 0,i6 0,i6 0,i6 0,i6 0,.slice none 0 0,.string (⟨#[]⟩:ByteArray),i6 0] (0,0) _ rfl (by refine blk_put (cs:=#[i6 0,i6 0,i6 0,i6 0,i6 0,i6 0,i6 0,i6 0,i6 0,.slice none 0 0,.string (⟨#[]⟩:ByteArray),i6 0]) ?_ 11 _ rfl;refine blk_put (cs:=#[i6 0,i6 0,i6 0,i6 0,i6 0,i6 0,i6 0,i6 0,i6 0,.slice none 0 0,.string (⟨#[]⟩:ByteArray),i6 0]) ?_ 10 _ rfl;refine blk_put (cs:=#[i6 0,i6 0,i6 0,i6 0,i6 0,i6 0,i6 0,i6 0,i6 0,.slice none 0 0,.string (⟨#[]⟩:ByteArray),i6 0]) ?_ 9 _ rfl;refine blk_put (cs:=#[i6 0,i6 0,i6 0,i6 0,i6 0,i6 0,i6 0,i6 0,i6 0,.slice none 0 0,.string (⟨#[]⟩:ByteArray),i6 0]) ?_ 8 _ rfl;refine blk_put (cs:=#[i6 0,i6 0,i6 0,i6 0,i6 0,i6 0,i6 0,i6 0,i6 0,.slice none 0 0,.string (⟨#[]⟩:ByteArray),i6 0]) ?_ 7 _ rfl;refine blk_put (cs:=#[i6 0,i6 0,i6 0,i6 0,i6 0,i6 0,i6 0,i6 0,i6 0,.slice none 0 0,.string (⟨#[]⟩:ByteArray),i6 0]) ?_ 6 _ rfl;refine blk_put (cs:=#[i6 0,i6 0,i6 0,i6 0,i6 0,i6 0,i6 0,i6 0,i6 0,.slice none 0 0,.string (⟨#[]⟩:ByteArray),i6 0]) ?_ 5 _ rfl;refine blk_put (cs:=#[i6 0,i6 0,i6 0,i6 0,i6 0,i6 0,i6 0,i6 0,i6 0,.slice none 0 0,.string (⟨#[]⟩:ByteArray),i6 0]) ?_ 4 _ rfl;refine blk_put (cs:=#[i6 0,i6 0,i6 0,i6 0,i6 0,i6 0,i6 0,i6 0,i6 0,.slice none 0 0,.string (⟨#[]⟩:ByteArray),i6 0]) ?_ 3 _ rfl;refine blk_put (cs:=#[i6 0,i6 0,i6 0,i6 0,i6 0,i6 0,i6 0,i6 0,i6 0,.slice none 0 0,.string (⟨#[]⟩:ByteArray),i6 0]) ?_ 2 _ rfl;refine blk_put (cs:=#[i6 0,i6 0,i6 0,i6 0,i6 0,i6 0,i6 0,i6 0,i6 0,.slice none 0 0,.string (⟨#[]⟩:ByteArray),i6 0]) ?_ 1 _ rfl;refine blk_put (cs:=#[i6 0,i6 0,i6 0,i6 0,i6 0,i6 0,i6 0,i6 0,i6 0,.slice none 0 0,.string (⟨#[]⟩:ByteArray),i6 0]) ?_ 0 _ rfl;exact aE.out) Tryz.underlying28 rfl (by kernel_rfl)) rfl ?_
              exact⟨_,by rfl,by exact Kd.R_nil _ _ _ _ _,bs12 HB.out bV.out⟩
             ·replace iG:=Bool.eq_false_iff.mpr iG
              subst iG
              have H1:((ententeref03_Parse.f cJ cH).bind fun bG=> ((ententeref01_TakeText.f cJ a2 cI).bind fun bK=> (if bG.2.2.2=0 then(ententeref13_Decode.j1 cJ a0 a2 bJ bK.1 bK.2.1 (bK.2.2 !=0) (rd aA 0) (rd aA 1) (rd aA 2) (rd aA 3) (rd aA 4) (rd aA 5) 0 0 0 (⟨#[]⟩:ByteArray) 0 bG.1 bG.2.1 bG.2.2.1)else(ententeref13_Decode.j1 cJ a0 a2 bJ bK.1 bK.2.1 true (rd aA 0) (rd aA 1) (rd aA 2) (rd aA 3) (rd aA 4) (rd aA 5) 0 0 0 (⟨#[]⟩:ByteArray) 0 bG.1 bG.2.1 bG.2.2.1))))=some (r1,r2,r3,r4,r5,r6,r7,r8,r9,r10,r11,r12,r13):=by rw[if_neg (show ¬ (false=true)by decide)]at H;exact H
              clear H
              have H:=H1
              clear H1
              obtain⟨⟨cC,cD,b4,gF⟩,gG,H⟩:=Option.bind_eq_some_iff.mp H
              try dsimp only at H
              have pH:=am gG
              clear gG
              obtain⟨⟨dV,cK,gH⟩,gI,H⟩:=Option.bind_eq_some_iff.mp H
              try dsimp only at H
              have pI:=am gI
              clear gI
              have HC45:=am H
              clear H
              go_upto_region 15 with(first|((with_reducible refine gate_callee (f:=34) rfl ?_);refine goesL_ (some 90) rfl rfl Tryz.func34 (by kernel_rfl) rfl #[.string cH] rfl (by(try simp only[l_m,l_c,l_n]);rfl) ?_;(with_reducible refine(ententeref03_Parse.calls cJ cH cC cD b4 gF _ pH.out).mono ?_);rintro e pW ⟨v471,rfl,ho0,hb⟩;refine⟨_,rfl,?_⟩;replace HO_11:=am (Kd.R_below (by exact HO_11.out) hb);have b5:=am (Kd.R_lower ho0 (below_size (HB.out)));replace aE:=am (blk_below aE.out hb);replace aB:=am (blk_below aB.out hb);replace HB:=am (below_step (HB.out) hb);clear hb ho0)|((with_reducible refine gate_dst (N:=17) rfl ?_);refine box_event ?hg (N:=17) ?hd (cs:=#[i6 0,i6 0,.slice none 0 0]) (t:=24) ?hr ?_;(case hd=> rfl);(case hg=> rfl);(case hr=> (go_simp;done));intro bW hg pX hbox hb;replace HO_11:=am (Kd.R_below (by exact HO_11.out) hb);replace b5:=am (Kd.R_below (by exact b5.out) hb);have aZ:=am (hbox);have oH:=am (gsz hg HB.out);have gJ:=am (gsz hg HB.out);replace HB:=am (below_step (HB.out) hb);have bS:=am ((by rw[hg];exact Nat.ne_of_lt (blk_lt aE.out):a3≠bW));have bX:=am ((by rw[hg];exact Nat.ne_of_gt (blk_lt aE.out):bW≠a3));replace aE:=am (blk_below aE.out hb);have a1:=am ((by rw[hg];exact Nat.ne_of_lt (blk_lt aB.out):aC≠bW));have aJ:=am ((by rw[hg];exact Nat.ne_of_gt (blk_lt aB.out):bW≠aC));replace aB:=am (blk_below aB.out hb);clear hb hbox hg;have oI:=bX.out;have oJ:=bS.out;have oK:=aJ.out;have oL:=a1.out;obtain⟨d7,d8,d9⟩:=bc3 aZ.out;obtain⟨eA,eB,eC⟩:=bf3 aZ.out;obtain⟨dW,dX,eo51⟩:=Kd.R_slice b5.out;subst eo51)|((with_reducible refine gate_callee (f:=33) rfl ?_);refine goesL_ (some 96) rfl rfl Tryz.func33 (by kernel_rfl) rfl #[.string a2,i6 cI] rfl (by(try simp only[l_m,l_c,l_n]);rfl) ?_;(with_reducible refine(ententeref01_TakeText.calls cJ a2 cI dV cK gH _ pI.out).mono ?_);rintro e pY ⟨rfl,hb⟩;refine⟨_,rfl,?_⟩;replace HO_11:=am (Kd.R_below (by exact(Kd.R_mono (rf (rf (rf (Kd.R_types HO_11.out aZ.out (by decide))))) (fun _ h_=> h_.1))) hb);replace b5:=am (Kd.R_below (by exact(Kd.R_mono (rf (rf (rf (Kd.R_types b5.out aZ.out (by decide))))) (fun _ h_=> h_.1))) hb);replace aE:=am (blk_below (g:=a3) (o:=.cells #[i6 0,i6 0,i6 0,i6 0,i6 0,i6 0,i6 0,i6 0,i6 0,.slice none 0 0,.string (⟨#[]⟩:ByteArray),i6 0] 28 (0,0)) (by(iterate 3 refine blk_far ?_ bS.out _);exact aE.out) hb);replace aB:=am (blk_below (g:=aC) (o:=.cells #[i6 (rd aA 0),i6 (rd aA 1),i6 (rd aA 2),i6 (rd aA 3),i6 (rd aA 4),i6 (rd aA 5),i6 0,i6 0,i6 0,.slice none 0 0,.string (⟨#[]⟩:ByteArray),i6 0] 28 (0,0)) (by(iterate 3 refine blk_far ?_ a1.out _);exact aB.out) hb);replace aZ:=am (blk_below (g:=bW) (o:=.cells #[i6 cC,i6 cD,.slice dW b4.length dX] 24 (0,0)) (bp (bp (bp aZ.out 0) 1) 2) hb);replace HB:=am (below_step (bs3 HB.out gJ.out) hb);clear hb))
              (try simp only[Act.put,l_a,l_z,l_s])
              go_cut [105] (fun v105 wc=> ∃ (kq:Nat) (bY:Bool),v105=.bool bY∧Aside0 (ententeref13_Decode.j1 kq a0 a2 bJ dV cK bY (rd aA 0) (rd aA 1) (rd aA 2) (rd aA 3) (rd aA 4) (rd aA 5) 0 0 0 (⟨#[]⟩:ByteArray) 0 cC cD b4=some (r1,r2,r3,r4,r5,r6,r7,r8,r9,r10,r11,r12,r13))∧Aside0 (kq≤cJ)∧Aside0 (Kd.R (Kd.int .i64) 3 wc w.heap.size (fun _=> True) v463 bJ)∧Aside0 (Kd.R k46 46 wc w.heap.size (fun _=> True) (.slice dW b4.length dX) b4)∧Aside0 (wc.heap[a3]?=some (.cells #[i6 0,i6 0,i6 0,i6 0,i6 0,i6 0,i6 0,i6 0,i6 0,(.slice none 0 0),.string (⟨#[]⟩:ByteArray),i6 0] 28 (0,0)))∧Aside0 (wc.heap[aC]?=some (.cells #[i6 (rd aA 0),i6 (rd aA 1),i6 (rd aA 2),i6 (rd aA 3),i6 (rd aA 4),i6 (rd aA 5),i6 0,i6 0,i6 0,(.slice none 0 0),.string (⟨#[]⟩:ByteArray),i6 0] 28 (0,0)))∧Aside0 (wc.heap[bW]?=some (.cells #[i6 cC,i6 cD,(.slice dW b4.length dX)] 24 (0,0)))∧Aside0 (Below w.heap.size w wc))
              case first=>
               have H:=HC45.out
               clear HC45
               by_cases fJ:gF=0
               ·rw[if_pos fJ]at H
                have gK:=beq_iff_eq.mpr fJ
                have gL:=bne_eq_false_iff_eq.mpr fJ
                clear fJ
                (skip)
                have H':=am H
                clear H
                go_wp2
                go_meet
                case rel=> exact⟨_,((gH !=0)),(by rfl),H',⟨by have:=fI.out;omega⟩,⟨by exact HO_11.out⟩,⟨by exact b5.out⟩,⟨by exact aE.out⟩,⟨by exact aB.out⟩,⟨by exact aZ.out⟩,⟨HB.out⟩⟩
               ·rw[if_neg fJ]at H
                have gK:=beq_eq_false_iff_ne.mpr fJ
                have gL:=bne_iff_ne.mpr fJ
                (skip)
                have H':=am H
                clear H
                go_wp2
                go_meet
                case rel=> exact⟨_,(true),(by rfl),H',⟨by have:=fI.out;omega⟩,⟨by exact HO_11.out⟩,⟨by exact b5.out⟩,⟨by exact aE.out⟩,⟨by exact aB.out⟩,⟨by exact aZ.out⟩,⟨HB.out⟩⟩
              case rest=>
               clear HC45 d7 d8 d9 eA eB eC
               obtain⟨kq,bY,rfl,HA,n1,HO_11,HO_475002,aE,aB,aZ,HB⟩:=hcut
               cases kq with
               |zero=> exact absurd HA.out (by simp[ententeref13_Decode.j1])
               |succ dY=>
                have H:=HA.out
                clear HA
                simp only[ententeref13_Decode.j1]at H
                by_cases i1:bY=true
                ·subst i1
                 have H1:(some (0,0,0,0,0,0,0,0,0,([]:List (S46)),(⟨#[]⟩:ByteArray),0,130))=some (r1,r2,r3,r4,r5,r6,r7,r8,r9,r10,r11,r12,r13):=by rw[if_pos rfl]at H;exact H
                 clear H
                 have H:=H1
                 clear H1
                 simp only[Option.some.injEq,Prod.mk.injEq]at H
                 obtain⟨rfl,rfl,rfl,rfl,rfl,rfl,rfl,rfl,rfl,rfl,rfl,rfl,rfl⟩:=H
                 have oM:=aH.out
                 have oN:=aI.out
                 have oO:=bS.out
                 have oP:=bX.out
                 obtain⟨i2,i3,i4,i5,i7,i8,i9,jA,jB,jC,gM,gN⟩:=bc12 aE.out
                 obtain⟨jD,jE,jF,jG,jH,jI,jJ,jK,jL,jM,gO,gP⟩:=bf12 aE.out
                 go_wp2
                 refine bodyPost_ret (results_ct rfl _ _ a3 28 #[i6 0,i6 0,i6 0,i6 0,i6 0,i6 0,i6 0,i6 0,i6 0,.slice none 0 0,.string (⟨#[]⟩:ByteArray),i6 0] (0,0) _ rfl (by refine blk_put (cs:=#[i6 0,i6 0,i6 0,i6 0,i6 0,i6 0,i6 0,i6 0,i6 0,.slice none 0 0,.string (⟨#[]⟩:ByteArray),i6 0]) ?_ 11 _ rfl;refine blk_put (cs:=#[i6 0,i6 0,i6 0,i6 0,i6 0,i6 0,i6 0,i6 0,i6 0,.slice none 0 0,.string (⟨#[]⟩:ByteArray),i6 0]) ?_ 10 _ rfl;refine blk_put (cs:=#[i6 0,i6 0,i6 0,i6 0,i6 0,i6 0,i6 0,i6 0,i6 0,.slice none 0 0,.string (⟨#[]⟩:ByteArray),i6 0]) ?_ 9 _ rfl;refine blk_put (cs:=#[i6 0,i6 0,i6 0,i6 0,i6 0,i6 0,i6 0,i6 0,i6 0,.slice none 0 0,.string (⟨#[]⟩:ByteArray),i6 0]) ?_ 8 _ rfl;refine blk_put (cs:=#[i6 0,i6 0,i6 0,i6 0,i6 0,i6 0,i6 0,i6 0,i6 0,.slice none 0 0,.string (⟨#[]⟩:ByteArray),i6 0]) ?_ 7 _ rfl;refine blk_put (cs:=#[i6 0,i6 0,i6 0,i6 0,i6 0,i6 0,i6 0,i6 0,i6 0,.slice none 0 0,.string (⟨#[]⟩:ByteArray),i6 0]) ?_ 6 _ rfl;refine blk_put (cs:=#[i6 0,i6 0,i6 0,i6 0,i6 0,i6 0,i6 0,i6 0,i6 0,.slice none 0 0,.string (⟨#[]⟩:ByteArray),i6 0]) ?_ 5 _ rfl;refine blk_put (cs:=#[i6 0,i6 0,i6 0,i6 0,i6 0,i6 0,i6 0,i6 0,i6 0,.slice none 0 0,.string (⟨#[]⟩:ByteArray),i6 0]) ?_ 4 _ rfl;refine blk_put (cs:=#[i6 0,i6 0,i6 0,i6 0,i6 0,i6 0,i6 0,i6 0,i6 0,.slice none 0 0,.string (⟨#[]⟩:ByteArray),i6 0]) ?_ 3 _ rfl;refine blk_put (cs:=#[i6 0,i6 0,i6 0,i6 0,i6 0,i6 0,i6 0,i6 0,i6 0,.slice none 0 0,.string (⟨#[]⟩:ByteArray),i6 0]) ?_ 2 _ rfl;refine blk_put (cs:=#[i6 0,i6 0,i6 0,i6 0,i6 0,i6 0,i6 0,i6 0,i6 0,.slice none 0 0,.string (⟨#[]⟩:ByteArray),i6 0]) ?_ 1 _ rfl;refine blk_put (cs:=#[i6 0,i6 0,i6 0,i6 0,i6 0,i6 0,i6 0,i6 0,i6 0,.slice none 0 0,.string (⟨#[]⟩:ByteArray),i6 0]) ?_ 0 _ rfl;exact aE.out) Tryz.underlying28 rfl (by kernel_rfl)) rfl ?_
                 exact⟨_,by rfl,by exact Kd.R_nil _ _ _ _ _,bs12 HB.out bV.out⟩
                ·replace i1:=Bool.eq_false_iff.mpr i1
                 subst i1
                 have H1:((ententeref13_numbers.f dY a2 cK 1).bind fun b2=> (if b2.2.2=true then(if 0< (bJ.length:Int)then(if 0< (b2.1.length:Int)then(ententeref13_Decode.j2 dY a0 (rd aA 0) (rd aA 1) (rd aA 2) (rd aA 3) (rd aA 4) (rd aA 5) (rd bJ 0) cC cD b4 dV (rd b2.1 0))else(none))else(none))else(some (0,0,0,0,0,0,0,0,0,([]:List (S46)),(⟨#[]⟩:ByteArray),0,130))))=some (r1,r2,r3,r4,r5,r6,r7,r8,r9,r10,r11,r12,r13):=by rw[if_neg (show ¬ (false=true)by decide)]at H;exact H
                 clear H
                 have H:=H1
                 clear H1
                 obtain⟨⟨b6,gQ,n2⟩,gR,H⟩:=Option.bind_eq_some_iff.mp H
                 try dsimp only at H
                 have oQ:=am gR
                 clear gR
                 by_cases jN:n2=true
                 ·subst jN
                  have H1:(if 0< (bJ.length:Int)then(if 0< (b6.length:Int)then(ententeref13_Decode.j2 dY a0 (rd aA 0) (rd aA 1) (rd aA 2) (rd aA 3) (rd aA 4) (rd aA 5) (rd bJ 0) cC cD b4 dV (rd b6 0))else(none))else(none))=some (r1,r2,r3,r4,r5,r6,r7,r8,r9,r10,r11,r12,r13):=by rw[if_pos rfl]at H;exact H
                  clear H
                  have H:=H1
                  clear H1
                  by_cases jO:0< (bJ.length:Int)
                  ·rw[if_pos jO]at H
                   have oR:=decide_eq_true jO
                   have oS:decide (0< bJ.length)=true:=decide_eq_true (by omega)
                   clear jO
                   by_cases jP:0< (b6.length:Int)
                   ·rw[if_pos jP]at H
                    have oT:=decide_eq_true jP
                    have oU:decide (0< b6.length)=true:=decide_eq_true (by omega)
                    clear jP
                    have H':=am H
                    clear H
                    try go_wp2_with (first|((with_reducible refine gate_callee (f:=32) rfl ?_);refine goesL_ (some 110) rfl rfl Tryz.func32 (by kernel_rfl) rfl #[.string a2,i6 cK,i6 1] rfl (by(try simp only[l_m,l_c,l_n]);rfl) ?_;(with_reducible refine(ententeref13_numbers.calls dY a2 cK 1 b6 gQ true _ oQ.out).mono ?_);rintro e pJ ⟨v481,rfl,ho0,hb⟩;refine⟨_,rfl,?_⟩;replace HO_475002:=am (Kd.R_below (by exact HO_475002.out) hb);have bI:=am (Kd.R_lower (Kd.R_new' ho0 (Kd.R_lt (by exact HO_11.out))) (below_size (HB.out)));replace HO_11:=am (Kd.R_elder' (by exact HO_11.out) (Kd.R_base ho0) hb);replace aE:=am (blk_below aE.out hb);replace aB:=am (blk_below aB.out hb);replace aZ:=am (blk_below aZ.out hb);replace HB:=am (below_step (HB.out) hb);clear hb ho0))
                    have e3:=am (Kd.R_drew HO_11.out)
                    have e4:=am (Kd.R_drew HO_475002.out)
                    have e5:=am (Kd.R_drew bI.out)
                    have f4:=am (blk_drew aE.out)
                    have f5:=am (blk_drew aB.out)
                    have f6:=am (blk_drew aZ.out)
                    have f7:=am (below_drew1 HB.out)
                    clear HO_11 HO_475002 bI aE aB aZ HB
                    have HO_11:=e3
                    have HO_475002:=e4
                    have bI:=e5
                    have aE:=f4
                    have aB:=f5
                    have aZ:=f6
                    have HB:=f7
                    clear e3 e4 e5 f4 f5 f6 f7
                    obtain⟨pK,pL,eo64⟩:=Kd.R_slice HO_11.out
                    (subst eo64)
                    have fK:0≤(0:Int):=(by omega)
                    have fL:0< (bJ.length:Int):=of_decide_eq_true (by(with_reducible assumption))
                    obtain⟨gS,e483,bZ⟩:=Kd.at_int (Kd.R_reads' HO_11.out).2.2 0 fK fL
                    cases e483
                    have oV:(0< bJ.length)=True:=eq_true (by omega)
                    (try rw[show((0:Int)).toNat=0 from rfl]at bZ)
                    (try rw[Addr.add_zero']at bZ)
                    replace fK:=eq_true fK
                    replace fL:=eq_true fL
                    obtain⟨pM,pN,eo65⟩:=Kd.R_slice bI.out
                    (subst eo65)
                    have fM:0≤(0:Int):=(by omega)
                    have fN:0< (b6.length:Int):=of_decide_eq_true (by(with_reducible assumption))
                    obtain⟨gT,e484,b0⟩:=Kd.at_int (Kd.R_reads' bI.out).2.2 0 fM fN
                    cases e484
                    have oW:(0< b6.length)=True:=eq_true (by omega)
                    (try rw[show((0:Int)).toNat=0 from rfl]at b0)
                    (try rw[Addr.add_zero']at b0)
                    replace fM:=eq_true fM
                    replace fN:=eq_true fN
                    refine start_ (n:=11) (S:=fun w'=> w'.cell? ⟨bW,0,none⟩=some (i6 cC)∧w'.cell? ⟨bW,1,none⟩=some (i6 cD)∧w'.cell? ⟨bW,2,none⟩=some (.slice dW b4.length dX)∧w'.cell? gS=some (i6 (rd bJ 0))∧w'.cell? gT=some (i6 (rd b6 0))) (ds:=[]) (rl [0,11]) (by kernel_rfl) rfl rfl ⟨(blk_cell aZ.out 0).trans rfl,(blk_cell aZ.out 1).trans rfl,(blk_cell aZ.out 2).trans rfl,bZ,b0⟩ (fun hHeld=> ?_);refine with_tabW ententeref13_Decode.tab20 ententeref13_Decode.bits20 (fun HT_ HW_=> ?_)
                    generalize pJ.drew=fP at HO_11 HO_475002 bI aE aB aZ HB bZ b0 hHeld ⊢
                    refine pure_ (i:=0) (N:=some 117) (v:=?_) (a':=?_) (rl [1,10]) rfl rfl (any_of HT_.out (by kernel_rfl)) (fun _ _ _ h=> h) (Or.inl ⟨by rfl,?_⟩) ?_ ?_
                    rotate_left
                    ·intro w'
                     go_simp
                     with_reducible rfl
                    rotate_left
                    ·simp only[Act.put,l_a,l_z,l_s,i64_w,i32_w]
                     rfl
                    refine pure_ (i:=1) (N:=some 118) (v:=?_) (a':=?_) (rl [2,9]) rfl rfl (any_of HT_.out (by kernel_rfl)) (fun _ _ _ h=> h) (Or.inl ⟨by rfl,?_⟩) ?_ ?_
                    rotate_left
                    ·intro w'
                     go_simp
                     with_reducible rfl
                    rotate_left
                    ·simp only[Act.put,l_a,l_z,l_s,i64_w,i32_w]
                     rfl
                    refine pure_ (i:=4) (N:=some 121) (v:=?_) (a':=?_) (rl [2,2,1,6]) rfl rfl (any_of HT_.out (by kernel_rfl)) (fun _ _ _ h=> h) (Or.inl ⟨by rfl,?_⟩) ?_ ?_
                    rotate_left
                    ·intro w'
                     go_simp
                     with_reducible rfl
                    rotate_left
                    ·simp only[Act.put,l_a,l_z,l_s,i64_w,i32_w]
                     rfl
                    refine pure_ (i:=5) (N:=some 122) (v:=?_) (a':=?_) (rl [2,2,2,5]) rfl rfl (any_of HT_.out (by kernel_rfl)) (fun _ _ _ h=> h) (Or.inl ⟨by rfl,?_⟩) ?_ ?_
                    rotate_left
                    ·intro w'
                     go_simp
                     with_reducible rfl
                    rotate_left
                    ·simp only[Act.put,l_a,l_z,l_s,i64_w,i32_w]
                     rfl
                    refine pure_ (i:=6) (N:=some 123) (v:=?_) (a':=?_) (rl [2,2,3,4]) rfl rfl (any_of HT_.out (by kernel_rfl)) (fun _ _ _ h=> h) (Or.inl ⟨by rfl,?_⟩) ?_ ?_
                    rotate_left
                    ·intro w'
                     go_simp
                     with_reducible rfl
                    rotate_left
                    ·simp only[Act.put,l_a,l_z,l_s,i64_w,i32_w]
                     rfl
                    refine take_ (i:=2) (N:=some 119) (v:=?_) (a':=?_) (rl [3,1,3,4]) rfl rfl (take_ofW HT_.out HW_.out (by kernel_rfl)) (fun _ _ _ h=> h) (Or.inl ⟨by rfl,?_⟩) hHeld ?_ ?_
                    rotate_left
                    ·rintro w' ⟨s0,s1,s2,s3,s4⟩
                     go_simp
                     with_reducible rfl
                    rotate_left
                    ·simp only[Act.put,l_a,l_z,l_s,i64_w,i32_w]
                     rfl
                    refine take_ (i:=3) (N:=some 120) (v:=?_) (a':=?_) (rl [7,4]) rfl rfl (take_ofW HT_.out HW_.out (by kernel_rfl)) (fun _ _ _ h=> h) (Or.inl ⟨by rfl,?_⟩) hHeld ?_ ?_
                    rotate_left
                    ·rintro w' ⟨s0,s1,s2,s3,s4⟩
                     go_simp
                     with_reducible rfl
                    rotate_left
                    ·simp only[Act.put,l_a,l_z,l_s,i64_w,i32_w]
                     rfl
                    refine take_ (i:=7) (N:=some 124) (v:=?_) (a':=?_) (rl [8,3]) rfl rfl (take_ofW HT_.out HW_.out (by kernel_rfl)) (fun _ _ _ h=> h) (Or.inl ⟨by rfl,?_⟩) hHeld ?_ ?_
                    rotate_left
                    ·rintro w' ⟨s0,s1,s2,s3,s4⟩
                     go_simp
                     with_reducible rfl
                    rotate_left
                    ·simp only[Act.put,l_a,l_z,l_s,i64_w,i32_w]
                     rfl
                    refine pure_ (i:=8) (N:=some 125) (v:=?_) (a':=?_) (rl [9,2]) rfl rfl (any_of HT_.out (by kernel_rfl)) (fun _ _ _ h=> h) (Or.inl ⟨by rfl,?_⟩) ?_ ?_
                    rotate_left
                    ·intro w'
                     go_simp
                     with_reducible rfl
                    rotate_left
                    ·simp only[Act.put,l_a,l_z,l_s,i64_w,i32_w]
                     rfl
                    refine pure_ (i:=9) (N:=some 126) (v:=?_) (a':=?_) (rl [10,1]) rfl rfl (any_of HT_.out (by kernel_rfl)) (fun _ _ _ h=> h) (Or.inl ⟨by rfl,?_⟩) ?_ ?_
                    rotate_left
                    ·intro w'
                     go_simp
                     with_reducible rfl
                    rotate_left
                    ·simp only[Act.put,l_a,l_z,l_s,i64_w,i32_w]
                     rfl
                    refine one_ (i:=10) (N:=none) (rl [11]) rfl rfl (one_of HT_.out (by kernel_rfl)) (by decide) (fun K hK=> ?_)
                    have hs66:fP.cell? ⟨aC,6,none⟩=some (i6 0):=(blk_cell aB.out 6).trans rfl
                    have hfs66:=blk_frozen aB.out 6
                    have jQ:=aH.out
                    have jR:=aJ.out
                    have jS:=aI.out
                    have jT:=a1.out
                    have hs67:fP.cell? ⟨aC,7,none⟩=some (i6 0):=(blk_cell aB.out 7).trans rfl
                    have hfs67:=blk_frozen aB.out 7
                    have jU:=aH.out
                    have jV:=aJ.out
                    have jW:=aI.out
                    have jX:=a1.out
                    have hs68:fP.cell? ⟨aC,8,none⟩=some (i6 0):=(blk_cell aB.out 8).trans rfl
                    have hfs68:=blk_frozen aB.out 8
                    have jY:=aH.out
                    have jZ:=aJ.out
                    have j4:=aI.out
                    have j5:=a1.out
                    have hs69:fP.cell? ⟨aC,9,none⟩=some (.slice none 0 0):=(blk_cell aB.out 9).trans rfl
                    have hfs69:=blk_frozen aB.out 9
                    have j6:=aH.out
                    have j7:=aJ.out
                    have j8:=aI.out
                    have j9:=a1.out
                    have hs70:fP.cell? ⟨aC,10,none⟩=some (.string (⟨#[]⟩:ByteArray)):=(blk_cell aB.out 10).trans rfl
                    have hfs70:=blk_frozen aB.out 10
                    have kA:=aH.out
                    have kB:=aJ.out
                    have kC:=aI.out
                    have kD:=a1.out
                    have hs71:fP.cell? ⟨aC,11,none⟩=some (i6 0):=(blk_cell aB.out 11).trans rfl
                    have hfs71:=blk_frozen aB.out 11
                    have kE:=aH.out
                    have kF:=aJ.out
                    have kG:=aI.out
                    have kH:=a1.out
                    refine skip_ (w1:=?_) (by rfl) rfl ?_ ?_
                    rotate_left
                    ·go_simp
                     rfl
                    refine hK.out _ _ ⟨((cell_far (p:=⟨aC,_,none⟩) aJ.out _).trans (((cell_far (p:=⟨aC,_,none⟩) aJ.out _).trans (((cell_far (p:=⟨aC,_,none⟩) aJ.out _).trans (((cell_far (p:=⟨aC,_,none⟩) aJ.out _).trans (((cell_far (p:=⟨aC,_,none⟩) aJ.out _).trans (((cell_far (p:=⟨aC,_,none⟩) aJ.out _).trans (hHeld.1)))))))))))),((cell_far (p:=⟨aC,_,none⟩) aJ.out _).trans (((cell_far (p:=⟨aC,_,none⟩) aJ.out _).trans (((cell_far (p:=⟨aC,_,none⟩) aJ.out _).trans (((cell_far (p:=⟨aC,_,none⟩) aJ.out _).trans (((cell_far (p:=⟨aC,_,none⟩) aJ.out _).trans (((cell_far (p:=⟨aC,_,none⟩) aJ.out _).trans (hHeld.2.1)))))))))))),((cell_far (p:=⟨aC,_,none⟩) aJ.out _).trans (((cell_far (p:=⟨aC,_,none⟩) aJ.out _).trans (((cell_far (p:=⟨aC,_,none⟩) aJ.out _).trans (((cell_far (p:=⟨aC,_,none⟩) aJ.out _).trans (((cell_far (p:=⟨aC,_,none⟩) aJ.out _).trans (((cell_far (p:=⟨aC,_,none⟩) aJ.out _).trans (hHeld.2.2.1)))))))))))),((cell_far (p:=⟨aC,_,none⟩) (by exact Kd.own_blk (Kd.R_ne HO_11.out aB.out (by decide))) _).trans (((cell_far (p:=⟨aC,_,none⟩) (by exact Kd.own_blk (Kd.R_ne HO_11.out aB.out (by decide))) _).trans (((cell_far (p:=⟨aC,_,none⟩) (by exact Kd.own_blk (Kd.R_ne HO_11.out aB.out (by decide))) _).trans (((cell_far (p:=⟨aC,_,none⟩) (by exact Kd.own_blk (Kd.R_ne HO_11.out aB.out (by decide))) _).trans (((cell_far (p:=⟨aC,_,none⟩) (by exact Kd.own_blk (Kd.R_ne HO_11.out aB.out (by decide))) _).trans (((cell_far (p:=⟨aC,_,none⟩) (by exact Kd.own_blk (Kd.R_ne HO_11.out aB.out (by decide))) _).trans (hHeld.2.2.2.1)))))))))))),((cell_far (p:=⟨aC,_,none⟩) (by exact Kd.own_blk (Kd.R_ne bI.out aB.out (by decide))) _).trans (((cell_far (p:=⟨aC,_,none⟩) (by exact Kd.own_blk (Kd.R_ne bI.out aB.out (by decide))) _).trans (((cell_far (p:=⟨aC,_,none⟩) (by exact Kd.own_blk (Kd.R_ne bI.out aB.out (by decide))) _).trans (((cell_far (p:=⟨aC,_,none⟩) (by exact Kd.own_blk (Kd.R_ne bI.out aB.out (by decide))) _).trans (((cell_far (p:=⟨aC,_,none⟩) (by exact Kd.own_blk (Kd.R_ne bI.out aB.out (by decide))) _).trans (((cell_far (p:=⟨aC,_,none⟩) (by exact Kd.own_blk (Kd.R_ne bI.out aB.out (by decide))) _).trans (hHeld.2.2.2.2))))))))))))⟩ (fun hHeld=> ?_)
                    clear hK K
                    refine done_ (done_of HT_.out (by kernel_rfl)) ?_
                    try go_wp2
                    go_meet
                    case rel=> exact⟨_,(0),(0),(0),(0),(0),(0),(0),(0),(0),((⟨#[]⟩:ByteArray)),(0),(rd bJ 0),(cC),(cD),(b4),(dV),(rd b6 0),(.slice dW b4.length dX),H',⟨by have:=fI.out;have:=n1.out;omega⟩,⟨by exact Kd.R_mono (rf (rf (rf (rf (rf (rf (Kd.R_types HO_475002.out aB.out (by decide)))))))) (fun _ hk=> trivial)⟩,⟨by(iterate 6 refine blk_far ?_ aH.out _);exact aE.out⟩,⟨by exact bp (bp (bp (bp (bp (bp aB.out 6) 7) 8) 9) 10) 11⟩,⟨bs6 HB.out cL.out⟩⟩
                   ·rw[if_neg jP]at H
                    exact absurd H (by simp)
                  ·rw[if_neg jO]at H
                   exact absurd H (by simp)
                 ·replace jN:=Bool.eq_false_iff.mpr jN
                  subst jN
                  have H1:(some (0,0,0,0,0,0,0,0,0,([]:List (S46)),(⟨#[]⟩:ByteArray),0,130))=some (r1,r2,r3,r4,r5,r6,r7,r8,r9,r10,r11,r12,r13):=by rw[if_neg (show ¬ (false=true)by decide)]at H;exact H
                  clear H
                  have H:=H1
                  clear H1
                  simp only[Option.some.injEq,Prod.mk.injEq]at H
                  obtain⟨rfl,rfl,rfl,rfl,rfl,rfl,rfl,rfl,rfl,rfl,rfl,rfl,rfl⟩:=H
                  go_wp2_with (first|((with_reducible refine gate_callee (f:=32) rfl ?_);refine goesL_ (some 110) rfl rfl Tryz.func32 (by kernel_rfl) rfl #[.string a2,i6 cK,i6 1] rfl (by(try simp only[l_m,l_c,l_n]);rfl) ?_;(with_reducible refine(ententeref13_numbers.calls dY a2 cK 1 b6 gQ false _ oQ.out).mono ?_);rintro e pZ ⟨v481,rfl,ho0,hb⟩;refine⟨_,rfl,?_⟩;replace HO_475002:=am (Kd.R_below (by exact HO_475002.out) hb);have bI:=am (Kd.R_lower (Kd.R_new' ho0 (Kd.R_lt (by exact HO_11.out))) (below_size (HB.out)));replace HO_11:=am (Kd.R_elder' (by exact HO_11.out) (Kd.R_base ho0) hb);replace aE:=am (blk_below aE.out hb);replace aB:=am (blk_below aB.out hb);replace aZ:=am (blk_below aZ.out hb);replace HB:=am (below_step (HB.out) hb);clear hb ho0;have oX:=aH.out;have oY:=aI.out;have oZ:=bS.out;have o0:=bX.out;obtain⟨kI,kJ,kK,kL,kM,kN,kO,kP,kQ,kR,gU,gV⟩:=bc12 aE.out;obtain⟨kS,kT,kU,kV,kW,kX,kY,kZ,k0,k1,gW,gX⟩:=bf12 aE.out))
                  refine bodyPost_ret (results_ct rfl _ _ a3 28 #[i6 0,i6 0,i6 0,i6 0,i6 0,i6 0,i6 0,i6 0,i6 0,.slice none 0 0,.string (⟨#[]⟩:ByteArray),i6 0] (0,0) _ rfl (by refine blk_put (cs:=#[i6 0,i6 0,i6 0,i6 0,i6 0,i6 0,i6 0,i6 0,i6 0,.slice none 0 0,.string (⟨#[]⟩:ByteArray),i6 0]) ?_ 11 _ rfl;refine blk_put (cs:=#[i6 0,i6 0,i6 0,i6 0,i6 0,i6 0,i6 0,i6 0,i6 0,.slice none 0 0,.string (⟨#[]⟩:ByteArray),i6 0]) ?_ 10 _ rfl;refine blk_put (cs:=#[i6 0,i6 0,i6 0,i6 0,i6 0,i6 0,i6 0,i6 0,i6 0,.slice none 0 0,.string (⟨#[]⟩:ByteArray),i6 0]) ?_ 9 _ rfl;refine blk_put (cs:=#[i6 0,i6 0,i6 0,i6 0,i6 0,i6 0,i6 0,i6 0,i6 0,.slice none 0 0,.string (⟨#[]⟩:ByteArray),i6 0]) ?_ 8 _ rfl;refine blk_put (cs:=#[i6 0,i6 0,i6 0,i6 0,i6 0,i6 0,i6 0,i6 0,i6 0,.slice none 0 0,.string (⟨#[]⟩:ByteArray),i6 0]) ?_ 7 _ rfl;refine blk_put (cs:=#[i6 0,i6 0,i6 0,i6 0,i6 0,i6 0,i6 0,i6 0,i6 0,.slice none 0 0,.string (⟨#[]⟩:ByteArray),i6 0]) ?_ 6 _ rfl;refine blk_put (cs:=#[i6 0,i6 0,i6 0,i6 0,i6 0,i6 0,i6 0,i6 0,i6 0,.slice none 0 0,.string (⟨#[]⟩:ByteArray),i6 0]) ?_ 5 _ rfl;refine blk_put (cs:=#[i6 0,i6 0,i6 0,i6 0,i6 0,i6 0,i6 0,i6 0,i6 0,.slice none 0 0,.string (⟨#[]⟩:ByteArray),i6 0]) ?_ 4 _ rfl;refine blk_put (cs:=#[i6 0,i6 0,i6 0,i6 0,i6 0,i6 0,i6 0,i6 0,i6 0,.slice none 0 0,.string (⟨#[]⟩:ByteArray),i6 0]) ?_ 3 _ rfl;refine blk_put (cs:=#[i6 0,i6 0,i6 0,i6 0,i6 0,i6 0,i6 0,i6 0,i6 0,.slice none 0 0,.string (⟨#[]⟩:ByteArray),i6 0]) ?_ 2 _ rfl;refine blk_put (cs:=#[i6 0,i6 0,i6 0,i6 0,i6 0,i6 0,i6 0,i6 0,i6 0,.slice none 0 0,.string (⟨#[]⟩:ByteArray),i6 0]) ?_ 1 _ rfl;refine blk_put (cs:=#[i6 0,i6 0,i6 0,i6 0,i6 0,i6 0,i6 0,i6 0,i6 0,.slice none 0 0,.string (⟨#[]⟩:ByteArray),i6 0]) ?_ 0 _ rfl;exact aE.out) Tryz.underlying28 rfl (by kernel_rfl)) rfl ?_
                  exact⟨_,by rfl,by exact Kd.R_nil _ _ _ _ _,bs12 HB.out bV.out⟩
         case rest=>
          clear HC12 fE fF fR fS fT fU fV fW fX fY eY eZ e0 e1 cM cN b8 b9 cO cP cQ cR cS cT cU cV cW cX cA cB cY cZ c0 c1 dA dB dC dD bM bN bO bP bQ bR dJ dL dN dP dR dT dK dM dO dQ dS dU
          obtain⟨kq,bH,aY,aW,aT,aP,aN,aM,aL,aK,aG,aF,aO,aQ,aS,aR,aU,aX,u460009,HA,gY,HO_460009,aE,aB,HB⟩:=hcut
          cases kq with
          |zero=> exact absurd HA.out (by simp[ententeref13_Decode.j2])
          |succ gZ=>
           have H:=HA.out
           clear HA
           simp only[ententeref13_Decode.j2]at H
           obtain⟨⟨g0,g1⟩,g2,H⟩:=Option.bind_eq_some_iff.mp H
           try dsimp only at H
           have pO:=am g2
           clear g2
           have HC77:=am H
           clear H
           have o1:=aI.out
           have o2:=aH.out
           obtain⟨eD,eE,eF,eG,eH,eI,eJ,eK,eL,eM,dZ,d0⟩:=bc12 aB.out
           obtain⟨eN,eO,eP,eQ,eR,eS,eT,eU,eV,eW,d1,d2⟩:=bf12 aB.out
           obtain⟨dF,dG,eo80⟩:=Kd.R_slice HO_460009.out
           subst eo80
           go_upto_region 22 with(first|((with_reducible refine gate_callee (f:=8) rfl ?_);refine goesL_ (some 129) rfl rfl Tryz.func8 (by kernel_rfl) rfl #[.agg #[i6 (rd aA 0),i6 (rd aA 1),i6 (rd aA 2),i6 (rd aA 3),i6 (rd aA 4),i6 (rd aA 5),i6 aO,i6 aQ,i6 aS,.slice dF aR.length dG,.string aU,i6 aX]] rfl (by(try simp only[l_m,l_c,l_n]);rfl) ?_;(with_reducible refine(ententeref13_Encode.calls gZ (rd aA 0) (rd aA 1) (rd aA 2) (rd aA 3) (rd aA 4) (rd aA 5) aO aQ aS _ _ aR aU aX g0 g1 _ ?side1 ?side2 pO.out).mono ?_);(case side1=> exact(Kd.R_reads' HO_460009.out).2.2);(case side2=> exact(Kd.R_reads' HO_460009.out).2.1);rintro e p0 ⟨rfl,hb⟩;refine⟨_,rfl,?_⟩;replace HO_460009:=am (Kd.R_below (by exact HO_460009.out) hb);replace aE:=am (blk_below aE.out hb);replace aB:=am (blk_below aB.out hb);replace HB:=am (below_step (HB.out) hb);clear hb))
           (try simp only[Act.put,l_a,l_z,l_s])
           go_cut [138] (fun v138 wc=> ∃ (kq:Nat) (b1:Bool),v138=.bool b1∧Aside0 (ententeref13_Decode.j3 kq b1 (rd aA 0) (rd aA 1) (rd aA 2) (rd aA 3) (rd aA 4) (rd aA 5) aO aQ aS aR aU aX=some (r1,r2,r3,r4,r5,r6,r7,r8,r9,r10,r11,r12,r13))∧Aside0 (kq≤gZ)∧Aside0 (Kd.R k46 46 wc w.heap.size (fun _=> True) (.slice dF aR.length dG) aR)∧Aside0 (wc.heap[a3]?=some (.cells #[i6 bH,i6 aY,i6 aW,i6 aT,i6 aP,i6 aN,i6 aM,i6 aL,i6 aK,(.slice none 0 0),.string aG,i6 aF] 28 (0,0)))∧Aside0 (wc.heap[aC]?=some (.cells #[i6 (rd aA 0),i6 (rd aA 1),i6 (rd aA 2),i6 (rd aA 3),i6 (rd aA 4),i6 (rd aA 5),i6 aO,i6 aQ,i6 aS,(.slice dF aR.length dG),.string aU,i6 aX] 28 (0,0)))∧Aside0 (Below w.heap.size w wc))
           case first=>
            have H:=HC77.out
            clear HC77
            by_cases fO:g1=0
            ·rw[if_pos fO]at H
             have g3:=beq_iff_eq.mpr fO
             have g4:=bne_eq_false_iff_eq.mpr fO
             clear fO
             (skip)
             have H':=am H
             clear H
             go_wp2
             go_meet
             case rel=> exact⟨_,((g0.toList !=a0.toList)),(by rfl),H',⟨by have:=gY.out;omega⟩,⟨by exact HO_460009.out⟩,⟨by exact aE.out⟩,⟨by exact aB.out⟩,⟨HB.out⟩⟩
            ·rw[if_neg fO]at H
             have g3:=beq_eq_false_iff_ne.mpr fO
             have g4:=bne_iff_ne.mpr fO
             (skip)
             have H':=am H
             clear H
             go_wp2
             go_meet
             case rel=> exact⟨_,(true),(by rfl),H',⟨by have:=gY.out;omega⟩,⟨by exact HO_460009.out⟩,⟨by exact aE.out⟩,⟨by exact aB.out⟩,⟨HB.out⟩⟩
           case rest=>
            clear HC77 eD eE dZ d0 eF eG eH eI eJ eK eL eM eN eO d1 d2 eP eQ eR eS eT eU eV eW
            obtain⟨kq,b1,rfl,HA,pP,HO_460009,aE,aB,HB⟩:=hcut
            cases kq with
            |zero=> exact absurd HA.out (by simp[ententeref13_Decode.j3])
            |succ pQ=>
             have H:=HA.out
             clear HA
             simp only[ententeref13_Decode.j3]at H
             by_cases k2:b1=true
             ·subst k2
              have H1:(some (0,0,0,0,0,0,0,0,0,([]:List (S46)),(⟨#[]⟩:ByteArray),0,130))=some (r1,r2,r3,r4,r5,r6,r7,r8,r9,r10,r11,r12,r13):=by rw[if_pos rfl]at H;exact H
              clear H
              have H:=H1
              clear H1
              simp only[Option.some.injEq,Prod.mk.injEq]at H
              obtain⟨rfl,rfl,rfl,rfl,rfl,rfl,rfl,rfl,rfl,rfl,rfl,rfl,rfl⟩:=H
              have o3:=aH.out
              have o4:=aI.out
              obtain⟨k3,k4,k5,k6,k7,k8,k9,lA,lB,lC,g5,g6⟩:=bc12 aE.out
              obtain⟨lD,lE,lF,lG,lH,lI,lJ,lK,lL,lM,g7,g8⟩:=bf12 aE.out
              go_wp2
              refine bodyPost_ret (results_ct rfl _ _ a3 28 #[i6 0,i6 0,i6 0,i6 0,i6 0,i6 0,i6 0,i6 0,i6 0,.slice none 0 0,.string (⟨#[]⟩:ByteArray),i6 0] (0,0) _ rfl (by refine blk_put (cs:=#[i6 0,i6 0,i6 0,i6 0,i6 0,i6 0,i6 0,i6 0,i6 0,.slice none 0 0,.string (⟨#[]⟩:ByteArray),i6 aF]) ?_ 11 _ rfl;refine blk_put (cs:=#[i6 0,i6 0,i6 0,i6 0,i6 0,i6 0,i6 0,i6 0,i6 0,.slice none 0 0,.string aG,i6 aF]) ?_ 10 _ rfl;refine blk_put (cs:=#[i6 0,i6 0,i6 0,i6 0,i6 0,i6 0,i6 0,i6 0,i6 0,.slice none 0 0,.string aG,i6 aF]) ?_ 9 _ rfl;refine blk_put (cs:=#[i6 0,i6 0,i6 0,i6 0,i6 0,i6 0,i6 0,i6 0,i6 aK,.slice none 0 0,.string aG,i6 aF]) ?_ 8 _ rfl;refine blk_put (cs:=#[i6 0,i6 0,i6 0,i6 0,i6 0,i6 0,i6 0,i6 aL,i6 aK,.slice none 0 0,.string aG,i6 aF]) ?_ 7 _ rfl;refine blk_put (cs:=#[i6 0,i6 0,i6 0,i6 0,i6 0,i6 0,i6 aM,i6 aL,i6 aK,.slice none 0 0,.string aG,i6 aF]) ?_ 6 _ rfl;refine blk_put (cs:=#[i6 0,i6 0,i6 0,i6 0,i6 0,i6 aN,i6 aM,i6 aL,i6 aK,.slice none 0 0,.string aG,i6 aF]) ?_ 5 _ rfl;refine blk_put (cs:=#[i6 0,i6 0,i6 0,i6 0,i6 aP,i6 aN,i6 aM,i6 aL,i6 aK,.slice none 0 0,.string aG,i6 aF]) ?_ 4 _ rfl;refine blk_put (cs:=#[i6 0,i6 0,i6 0,i6 aT,i6 aP,i6 aN,i6 aM,i6 aL,i6 aK,.slice none 0 0,.string aG,i6 aF]) ?_ 3 _ rfl;refine blk_put (cs:=#[i6 0,i6 0,i6 aW,i6 aT,i6 aP,i6 aN,i6 aM,i6 aL,i6 aK,.slice none 0 0,.string aG,i6 aF]) ?_ 2 _ rfl;refine blk_put (cs:=#[i6 0,i6 aY,i6 aW,i6 aT,i6 aP,i6 aN,i6 aM,i6 aL,i6 aK,.slice none 0 0,.string aG,i6 aF]) ?_ 1 _ rfl;refine blk_put (cs:=#[i6 bH,i6 aY,i6 aW,i6 aT,i6 aP,i6 aN,i6 aM,i6 aL,i6 aK,.slice none 0 0,.string aG,i6 aF]) ?_ 0 _ rfl;exact aE.out) Tryz.underlying28 rfl (by kernel_rfl)) rfl ?_
              exact⟨_,by rfl,by exact Kd.R_nil _ _ _ _ _,bs12 HB.out bV.out⟩
             ·replace k2:=Bool.eq_false_iff.mpr k2
              subst k2
              have H1:(some ((rd aA 0),(rd aA 1),(rd aA 2),(rd aA 3),(rd aA 4),(rd aA 5),aO,aQ,aS,aR,aU,aX,0))=some (r1,r2,r3,r4,r5,r6,r7,r8,r9,r10,r11,r12,r13):=by rw[if_neg (show ¬ (false=true)by decide)]at H;exact H
              clear H
              have H:=H1
              clear H1
              simp only[Option.some.injEq,Prod.mk.injEq]at H
              obtain⟨rfl,rfl,rfl,rfl,rfl,rfl,rfl,rfl,rfl,rfl,rfl,rfl,rfl⟩:=H
              have o5:=aI.out
              have o6:=aH.out
              obtain⟨lN,lO,lP,lQ,lR,lS,lT,lU,lV,lW,g9,hA⟩:=bc12 aB.out
              obtain⟨lX,lY,lZ,l0,l1,l2,l3,l4,l5,l6,hB,hC⟩:=bf12 aB.out
              obtain⟨l7,l8,l9,mA,mB,mC,mD,mE,mF,mG,hD,hE⟩:=bc12 aE.out
              obtain⟨mH,mI,mJ,mK,mL,mM,mN,mO,mP,mQ,hF,hG⟩:=bf12 aE.out
              go_wp2
              refine bodyPost_ret (results_ct rfl _ _ a3 28 #[i6 (rd aA 0),i6 (rd aA 1),i6 (rd aA 2),i6 (rd aA 3),i6 (rd aA 4),i6 (rd aA 5),i6 aO,i6 aQ,i6 aS,.slice dF aR.length dG,.string aU,i6 aX] (0,0) _ rfl (by refine blk_put (cs:=#[i6 (rd aA 0),i6 (rd aA 1),i6 (rd aA 2),i6 (rd aA 3),i6 (rd aA 4),i6 (rd aA 5),i6 aO,i6 aQ,i6 aS,.slice dF aR.length dG,.string aU,i6 aF]) ?_ 11 _ rfl;refine blk_put (cs:=#[i6 (rd aA 0),i6 (rd aA 1),i6 (rd aA 2),i6 (rd aA 3),i6 (rd aA 4),i6 (rd aA 5),i6 aO,i6 aQ,i6 aS,.slice dF aR.length dG,.string aG,i6 aF]) ?_ 10 _ rfl;refine blk_put (cs:=#[i6 (rd aA 0),i6 (rd aA 1),i6 (rd aA 2),i6 (rd aA 3),i6 (rd aA 4),i6 (rd aA 5),i6 aO,i6 aQ,i6 aS,.slice none 0 0,.string aG,i6 aF]) ?_ 9 _ rfl;refine blk_put (cs:=#[i6 (rd aA 0),i6 (rd aA 1),i6 (rd aA 2),i6 (rd aA 3),i6 (rd aA 4),i6 (rd aA 5),i6 aO,i6 aQ,i6 aK,.slice none 0 0,.string aG,i6 aF]) ?_ 8 _ rfl;refine blk_put (cs:=#[i6 (rd aA 0),i6 (rd aA 1),i6 (rd aA 2),i6 (rd aA 3),i6 (rd aA 4),i6 (rd aA 5),i6 aO,i6 aL,i6 aK,.slice none 0 0,.string aG,i6 aF]) ?_ 7 _ rfl;refine blk_put (cs:=#[i6 (rd aA 0),i6 (rd aA 1),i6 (rd aA 2),i6 (rd aA 3),i6 (rd aA 4),i6 (rd aA 5),i6 aM,i6 aL,i6 aK,.slice none 0 0,.string aG,i6 aF]) ?_ 6 _ rfl;refine blk_put (cs:=#[i6 (rd aA 0),i6 (rd aA 1),i6 (rd aA 2),i6 (rd aA 3),i6 (rd aA 4),i6 aN,i6 aM,i6 aL,i6 aK,.slice none 0 0,.string aG,i6 aF]) ?_ 5 _ rfl;refine blk_put (cs:=#[i6 (rd aA 0),i6 (rd aA 1),i6 (rd aA 2),i6 (rd aA 3),i6 aP,i6 aN,i6 aM,i6 aL,i6 aK,.slice none 0 0,.string aG,i6 aF]) ?_ 4 _ rfl;refine blk_put (cs:=#[i6 (rd aA 0),i6 (rd aA 1),i6 (rd aA 2),i6 aT,i6 aP,i6 aN,i6 aM,i6 aL,i6 aK,.slice none 0 0,.string aG,i6 aF]) ?_ 3 _ rfl;refine blk_put (cs:=#[i6 (rd aA 0),i6 (rd aA 1),i6 aW,i6 aT,i6 aP,i6 aN,i6 aM,i6 aL,i6 aK,.slice none 0 0,.string aG,i6 aF]) ?_ 2 _ rfl;refine blk_put (cs:=#[i6 (rd aA 0),i6 aY,i6 aW,i6 aT,i6 aP,i6 aN,i6 aM,i6 aL,i6 aK,.slice none 0 0,.string aG,i6 aF]) ?_ 1 _ rfl;refine blk_put (cs:=#[i6 bH,i6 aY,i6 aW,i6 aT,i6 aP,i6 aN,i6 aM,i6 aL,i6 aK,.slice none 0 0,.string aG,i6 aF]) ?_ 0 _ rfl;exact aE.out) Tryz.underlying28 rfl (by kernel_rfl)) rfl ?_
              exact⟨_,by rfl,by exact Kd.R_mono (rf (rf (rf (rf (rf (rf (rf (rf (rf (rf (rf (rf (Kd.R_types HO_460009.out aE.out (by decide)))))))))))))) (fun _ hk=> trivial),bs12 HB.out bV.out⟩
        ·rw[if_neg hQ]at H
         exact absurd H (by simp)
       ·rw[if_neg c10]at H
        exact absurd H (by simp)
      ·rw[if_neg c9]at H
       exact absurd H (by simp)
     ·rw[if_neg c8]at H
      exact absurd H (by simp)
    ·rw[if_neg c7]at H
     exact absurd H (by simp)
   ·rw[if_neg c6]at H
    exact absurd H (by simp)
  ·replace c5:=Bool.eq_false_iff.mpr c5
   subst c5
   have H1:(some (0,0,0,0,0,0,0,0,0,([]:List (S46)),(⟨#[]⟩:ByteArray),0,130))=some (r1,r2,r3,r4,r5,r6,r7,r8,r9,r10,r11,r12,r13):=by rw[if_neg (show ¬ (false=true)by decide)]at H;exact H
   clear H
   have H:=H1
   clear H1
   simp only[Option.some.injEq,Prod.mk.injEq]at H
   obtain⟨rfl,rfl,rfl,rfl,rfl,rfl,rfl,rfl,rfl,rfl,rfl,rfl,rfl⟩:=H
   go_enter Tryz.func12,Tryz.ntmps12
   go_wp2_with (first|((with_reducible refine gate_dst (N:=2) rfl ?_);refine box_event ?hg (N:=2) ?hd (cs:=#[i6 0,i6 0,i6 0,i6 0,i6 0,i6 0,i6 0,i6 0,i6 0,.slice none 0 0,.string (⟨#[]⟩:ByteArray),i6 0]) (t:=28) ?hr ?_;(case hd=> rfl);(case hg=> rfl);(case hr=> (go_simp;done));intro a3 hg p1 hbox hb;have aE:=am (hbox);have e2:=am (gsz hg HB.out);have bV:=am (gsz hg HB.out);replace HB:=am (below_step (HB.out) hb);clear hb hbox hg)|((with_reducible refine gate_callee (f:=31) rfl ?_);refine goesL_ (some 28) rfl rfl Tryz.func31 (by kernel_rfl) rfl #[.string a0,i6 0,i6 1] rfl (by(try simp only[l_m,l_c,l_n]);rfl) ?_;(with_reducible refine(ententeref02_Open.calls k a0 0 1 a2 fD d6 _ A2.out).mono ?_);rintro e p2 ⟨rfl,hb⟩;refine⟨_,rfl,?_⟩;replace aE:=am (blk_below aE.out hb);replace HB:=am (below_step (HB.out) hb);clear hb)|((with_reducible refine gate_callee (f:=32) rfl ?_);refine goesL_ (some 38) rfl rfl Tryz.func32 (by kernel_rfl) rfl #[.string a2,i6 0,i6 6] rfl (by(try simp only[l_m,l_c,l_n]);rfl) ?_;(with_reducible refine(ententeref13_numbers.calls k a2 0 6 aA dI false _ A4.out).mono ?_);rintro e p3 ⟨v451,rfl,ho0,hb⟩;refine⟨_,rfl,?_⟩;have aD:=am (Kd.R_lower ho0 (below_size (HB.out)));replace aE:=am (blk_below aE.out hb);replace HB:=am (below_step (HB.out) hb);clear hb ho0;obtain⟨mR,mS,mT,mU,mV,mW,mX,mY,mZ,m0,hH,hI⟩:=bc12 aE.out;obtain⟨m1,m2,m3,m4,m5,m6,m7,m8,m9,nA,hJ,hL⟩:=bf12 aE.out))
   refine bodyPost_ret (results_ct rfl _ _ a3 28 #[i6 0,i6 0,i6 0,i6 0,i6 0,i6 0,i6 0,i6 0,i6 0,.slice none 0 0,.string (⟨#[]⟩:ByteArray),i6 0] (0,0) _ rfl (by refine blk_put (cs:=#[i6 0,i6 0,i6 0,i6 0,i6 0,i6 0,i6 0,i6 0,i6 0,.slice none 0 0,.string (⟨#[]⟩:ByteArray),i6 0]) ?_ 11 _ rfl;refine blk_put (cs:=#[i6 0,i6 0,i6 0,i6 0,i6 0,i6 0,i6 0,i6 0,i6 0,.slice none 0 0,.string (⟨#[]⟩:ByteArray),i6 0]) ?_ 10 _ rfl;refine blk_put (cs:=#[i6 0,i6 0,i6 0,i6 0,i6 0,i6 0,i6 0,i6 0,i6 0,.slice none 0 0,.string (⟨#[]⟩:ByteArray),i6 0]) ?_ 9 _ rfl;refine blk_put (cs:=#[i6 0,i6 0,i6 0,i6 0,i6 0,i6 0,i6 0,i6 0,i6 0,.slice none 0 0,.string (⟨#[]⟩:ByteArray),i6 0]) ?_ 8 _ rfl;refine blk_put (cs:=#[i6 0,i6 0,i6 0,i6 0,i6 0,i6 0,i6 0,i6 0,i6 0,.slice none 0 0,.string (⟨#[]⟩:ByteArray),i6 0]) ?_ 7 _ rfl;refine blk_put (cs:=#[i6 0,i6 0,i6 0,i6 0,i6 0,i6 0,i6 0,i6 0,i6 0,.slice none 0 0,.string (⟨#[]⟩:ByteArray),i6 0]) ?_ 6 _ rfl;refine blk_put (cs:=#[i6 0,i6 0,i6 0,i6 0,i6 0,i6 0,i6 0,i6 0,i6 0,.slice none 0 0,.string (⟨#[]⟩:ByteArray),i6 0]) ?_ 5 _ rfl;refine blk_put (cs:=#[i6 0,i6 0,i6 0,i6 0,i6 0,i6 0,i6 0,i6 0,i6 0,.slice none 0 0,.string (⟨#[]⟩:ByteArray),i6 0]) ?_ 4 _ rfl;refine blk_put (cs:=#[i6 0,i6 0,i6 0,i6 0,i6 0,i6 0,i6 0,i6 0,i6 0,.slice none 0 0,.string (⟨#[]⟩:ByteArray),i6 0]) ?_ 3 _ rfl;refine blk_put (cs:=#[i6 0,i6 0,i6 0,i6 0,i6 0,i6 0,i6 0,i6 0,i6 0,.slice none 0 0,.string (⟨#[]⟩:ByteArray),i6 0]) ?_ 2 _ rfl;refine blk_put (cs:=#[i6 0,i6 0,i6 0,i6 0,i6 0,i6 0,i6 0,i6 0,i6 0,.slice none 0 0,.string (⟨#[]⟩:ByteArray),i6 0]) ?_ 1 _ rfl;refine blk_put (cs:=#[i6 0,i6 0,i6 0,i6 0,i6 0,i6 0,i6 0,i6 0,i6 0,.slice none 0 0,.string (⟨#[]⟩:ByteArray),i6 0]) ?_ 0 _ rfl;exact aE.out) Tryz.underlying28 rfl (by kernel_rfl)) rfl ?_
   exact⟨_,by rfl,by exact Kd.R_nil _ _ _ _ _,bs12 HB.out bV.out⟩
 ·rw[if_neg c3]at H
  have fE:=beq_eq_false_iff_ne.mpr c3
  have fF:=bne_iff_ne.mpr c3
  simp only[Option.some.injEq,Prod.mk.injEq]at H
  obtain⟨rfl,rfl,rfl,rfl,rfl,rfl,rfl,rfl,rfl,rfl,rfl,rfl,rfl⟩:=H
  go_enter Tryz.func12,Tryz.ntmps12
  go_wp2_with (first|((with_reducible refine gate_dst (N:=2) rfl ?_);refine box_event ?hg (N:=2) ?hd (cs:=#[i6 0,i6 0,i6 0,i6 0,i6 0,i6 0,i6 0,i6 0,i6 0,.slice none 0 0,.string (⟨#[]⟩:ByteArray),i6 0]) (t:=28) ?hr ?_;(case hd=> rfl);(case hg=> rfl);(case hr=> (go_simp;done));intro a3 hg p4 hbox hb;have aE:=am (hbox);have e2:=am (gsz hg HB.out);have bV:=am (gsz hg HB.out);replace HB:=am (below_step (HB.out) hb);clear hb hbox hg)|((with_reducible refine gate_callee (f:=31) rfl ?_);refine goesL_ (some 28) rfl rfl Tryz.func31 (by kernel_rfl) rfl #[.string a0,i6 0,i6 1] rfl (by(try simp only[l_m,l_c,l_n]);rfl) ?_;(with_reducible refine(ententeref02_Open.calls k a0 0 1 a2 fD d6 _ A2.out).mono ?_);rintro e p5 ⟨rfl,hb⟩;refine⟨_,rfl,?_⟩;replace aE:=am (blk_below aE.out hb);replace HB:=am (below_step (HB.out) hb);clear hb;obtain⟨nB,nC,nD,nE,nF,nG,nH,nI,nJ,nK,hM,hN⟩:=bc12 aE.out;obtain⟨nL,nM,nN,nO,nP,nQ,nR,nS,nT,nU,hO,hP⟩:=bf12 aE.out))
  refine bodyPost_ret (results_ct rfl _ _ a3 28 #[i6 0,i6 0,i6 0,i6 0,i6 0,i6 0,i6 0,i6 0,i6 0,.slice none 0 0,.string (⟨#[]⟩:ByteArray),i6 0] (0,0) _ rfl (by refine blk_put (cs:=#[i6 0,i6 0,i6 0,i6 0,i6 0,i6 0,i6 0,i6 0,i6 0,.slice none 0 0,.string (⟨#[]⟩:ByteArray),i6 0]) ?_ 11 _ rfl;refine blk_put (cs:=#[i6 0,i6 0,i6 0,i6 0,i6 0,i6 0,i6 0,i6 0,i6 0,.slice none 0 0,.string (⟨#[]⟩:ByteArray),i6 0]) ?_ 10 _ rfl;refine blk_put (cs:=#[i6 0,i6 0,i6 0,i6 0,i6 0,i6 0,i6 0,i6 0,i6 0,.slice none 0 0,.string (⟨#[]⟩:ByteArray),i6 0]) ?_ 9 _ rfl;refine blk_put (cs:=#[i6 0,i6 0,i6 0,i6 0,i6 0,i6 0,i6 0,i6 0,i6 0,.slice none 0 0,.string (⟨#[]⟩:ByteArray),i6 0]) ?_ 8 _ rfl;refine blk_put (cs:=#[i6 0,i6 0,i6 0,i6 0,i6 0,i6 0,i6 0,i6 0,i6 0,.slice none 0 0,.string (⟨#[]⟩:ByteArray),i6 0]) ?_ 7 _ rfl;refine blk_put (cs:=#[i6 0,i6 0,i6 0,i6 0,i6 0,i6 0,i6 0,i6 0,i6 0,.slice none 0 0,.string (⟨#[]⟩:ByteArray),i6 0]) ?_ 6 _ rfl;refine blk_put (cs:=#[i6 0,i6 0,i6 0,i6 0,i6 0,i6 0,i6 0,i6 0,i6 0,.slice none 0 0,.string (⟨#[]⟩:ByteArray),i6 0]) ?_ 5 _ rfl;refine blk_put (cs:=#[i6 0,i6 0,i6 0,i6 0,i6 0,i6 0,i6 0,i6 0,i6 0,.slice none 0 0,.string (⟨#[]⟩:ByteArray),i6 0]) ?_ 4 _ rfl;refine blk_put (cs:=#[i6 0,i6 0,i6 0,i6 0,i6 0,i6 0,i6 0,i6 0,i6 0,.slice none 0 0,.string (⟨#[]⟩:ByteArray),i6 0]) ?_ 3 _ rfl;refine blk_put (cs:=#[i6 0,i6 0,i6 0,i6 0,i6 0,i6 0,i6 0,i6 0,i6 0,.slice none 0 0,.string (⟨#[]⟩:ByteArray),i6 0]) ?_ 2 _ rfl;refine blk_put (cs:=#[i6 0,i6 0,i6 0,i6 0,i6 0,i6 0,i6 0,i6 0,i6 0,.slice none 0 0,.string (⟨#[]⟩:ByteArray),i6 0]) ?_ 1 _ rfl;refine blk_put (cs:=#[i6 0,i6 0,i6 0,i6 0,i6 0,i6 0,i6 0,i6 0,i6 0,.slice none 0 0,.string (⟨#[]⟩:ByteArray),i6 0]) ?_ 0 _ rfl;exact aE.out) Tryz.underlying28 rfl (by kernel_rfl)) rfl ?_
  exact⟨_,by rfl,by exact Kd.R_nil _ _ _ _ _,bs12 HB.out bV.out⟩

end Go.Proofs.YtlaeihdldofkcaaGreatDoor.PN

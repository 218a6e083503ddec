/- The machine side of this seat's laws: plain functions, and proofs that the calls do what they say; written by a program of this session over the translation; no conditions beyond those typed. -/
import Derived.Test.YtlaeihdldofkcaaGreatDoorPMx0
import Derived.Test.YtlaeihdldofkcaaGreatDoorPMx1
import Derived.Test.YtlaeihdldofkcaaGreatDoorPMx2
import Derived.Test.YtlaeihdldofkcaaGreatDoorPMx3
import Derived.Test.YtlaeihdldofkcaaGreatDoorPMx5
namespace Go.Proofs.YtlaeihdldofkcaaGreatDoor.PN
open Go.RowKit Go.Proofs.YtlaeihdldofkcaaGreatDoorW.PrintWords Go.Proofs.YtlaeihdldofkcaaGreatDoorW.PrintLast Go.Proofs.YtlaeihdldofkcaaGreatDoorW.PrintMore
attribute [local go_sem] max2_int min2_int max_two min_two max_three min_three max_four min_four   -- for this text's walks alone
open List renaming setIfInBounds_toArray → l_a, set_cons_zero → l_z, set_cons_succ → l_s, map_toArray → l_m, map_cons → l_c, map_nil → l_n
set_option linter.unusedVariables false
set_option linter.unusedSimpArgs false

/-! ### ententeref13_Same: function 13 -/
def ententeref13_Same.f (k:Nat) (aM:Int) (aN:Int) (aO:Int) (aP:Int) (aQ:Int) (aR:Int) (aS:Int) (aT:Int) (aU:Int) (aK:List (S46)) (aG:ByteArray) (aH:Int) (aV:Int) (aW:Int) (aX:Int) (aY:Int) (aZ:Int) (bA:Int) (bB:Int) (bC:Int) (bD:Int) (aL:List (S46)) (aI:ByteArray) (aJ:Int):Option (Bool):=if aM=aV then(if aN=aW then(if aO=aX then(if aP=aY then(if aQ=aZ then(if aR=bA then((ententeref13_SameNote.f k aS aT aU aK aG aH bB bC bD aL aI aJ).bind fun bO=> (some bO))else(some false))else(some false))else(some false))else(some false))else(some false))else(some false)
theorem ententeref13_Same.mono:∀ a0 a1 a2 a3 a4 a5 a6 a7 a8 a9 a10 a11 a12 a13 a14 a15 a16 a17 a18 a19 a20 a21 a22 a23 k,LeO (ententeref13_Same.f k a0 a1 a2 a3 a4 a5 a6 a7 a8 a9 a10 a11 a12 a13 a14 a15 a16 a17 a18 a19 a20 a21 a22 a23) (ententeref13_Same.f (k+1) a0 a1 a2 a3 a4 a5 a6 a7 a8 a9 a10 a11 a12 a13 a14 a15 a16 a17 a18 a19 a20 a21 a22 a23):=by
 intro a0 a1 a2 a3 a4 a5 a6 a7 a8 a9 a10 a11 a12 a13 a14 a15 a16 a17 a18 a19 a20 a21 a22 a23 k
 unfold ententeref13_Same.f
 repeat' with_reducible first|apply ententeref13_SameNote.mono|apply LeO.refl|apply LeO.none|refine LeO.ite ?_ ?_|refine LeO.bind ?_ (fun _=> ?_)
set_option maxHeartbeats 8000000 in
set_option maxRecDepth 100000 in
theorem ententeref13_Same.calls (k:Nat) (aM:Int) (aN:Int) (aO:Int) (aP:Int) (aQ:Int) (aR:Int) (aS:Int) (aT:Int) (aU:Int) (bI:Option Addr) (c0_9:Nat) (aK:List (S46)) (aG:ByteArray) (aH:Int) (aV:Int) (aW:Int) (aX:Int) (aY:Int) (aZ:Int) (bA:Int) (bB:Int) (bC:Int) (bD:Int) (bJ:Option Addr) (c1_9:Nat) (aL:List (S46)) (aI:ByteArray) (aJ:Int) (r:Bool) (w:World) (bK:Kd.C k46 w bI aK.length aK) (bL:aK.length≤c0_9) (bM:Kd.C k46 w bJ aL.length aL) (bN:aL.length≤c1_9) (h:ententeref13_Same.f k aM aN aO aP aQ aR aS aT aU aK aG aH aV aW aX aY aZ bA bB bC bD aL aI aJ=some r) :
  Calls Tryz.prog 13 #[.agg #[i6 aM,i6 aN,i6 aO,i6 aP,i6 aQ,i6 aR,i6 aS,i6 aT,i6 aU,.slice bI aK.length c0_9,.string aG,i6 aH],.agg #[i6 aV,i6 aW,i6 aX,i6 aY,i6 aZ,i6 bA,i6 bB,i6 bC,i6 bD,.slice bJ aL.length c1_9,.string aI,i6 aJ]] w fun e w'=> e=.returned (.bool r)∧Below w.heap.size w w':=by
 have hu28:=Tryz.underlying28
 have hu26:=Tryz.underlying26
 have bP:=am bK
 have bQ:=am bL
 clear bK bL
 have bR:=am bM
 have bS:=am bN
 clear bM bN
 have HB:=am (Below.refl w.heap.size w)
 unfold ententeref13_Same.f at h
 have H:=h
 clear h
 by_cases c3:aM=aV
 ·rw[if_pos c3]at H
  have lE:=beq_iff_eq.mpr c3
  have lF:=bne_eq_false_iff_eq.mpr c3
  clear c3
  by_cases c4:aN=aW
  ·rw[if_pos c4]at H
   have lG:=beq_iff_eq.mpr c4
   have lH:=bne_eq_false_iff_eq.mpr c4
   clear c4
   by_cases c5:aO=aX
   ·rw[if_pos c5]at H
    have lI:=beq_iff_eq.mpr c5
    have lJ:=bne_eq_false_iff_eq.mpr c5
    clear c5
    by_cases c6:aP=aY
    ·rw[if_pos c6]at H
     have lK:=beq_iff_eq.mpr c6
     have lL:=bne_eq_false_iff_eq.mpr c6
     clear c6
     by_cases c7:aQ=aZ
     ·rw[if_pos c7]at H
      have lM:=beq_iff_eq.mpr c7
      have lN:=bne_eq_false_iff_eq.mpr c7
      clear c7
      by_cases c8:aR=bA
      ·rw[if_pos c8]at H
       have lO:=beq_iff_eq.mpr c8
       have lP:=bne_eq_false_iff_eq.mpr c8
       clear c8
       obtain⟨bO,lQ,H⟩:=Option.bind_eq_some_iff.mp H
       try dsimp only at H
       have A9:=am lQ
       clear lQ
       obtain rfl:=Option.some.inj H
       go_enter Tryz.func13,Tryz.ntmps13
       go_wp2_with (first|((with_reducible refine gate_dst (N:=2) rfl ?_);refine box_event ?hg (N:=2) ?hd (cs:=#[i6 aM,i6 aN,i6 aO,i6 aP,i6 aQ,i6 aR,i6 aS,i6 aT,i6 aU,.slice bI aK.length c0_9,.string aG,i6 aH]) (t:=28) ?hr ?_;(case hd=> rfl);(case hg=> rfl);(case hr=> (go_simp;done));intro aE hg l5 hbox hb;have aA:=am (hbox);have bE:=am (gsz hg HB.out);have bF:=am (gsz hg HB.out);replace HB:=am (below_step (HB.out) hb);clear hb hbox hg)|((with_reducible refine gate_dst (N:=3) rfl ?_);refine box_event ?hg (N:=3) ?hd (cs:=#[i6 aV,i6 aW,i6 aX,i6 aY,i6 aZ,i6 bA,i6 bB,i6 bC,i6 bD,.slice bJ aL.length c1_9,.string aI,i6 aJ]) (t:=28) ?hr ?_;(case hd=> rfl);(case hg=> rfl);(case hr=> (go_simp;done));intro aF hg l6 hbox hb;have aD:=am (hbox);have bG:=am (gsz hg HB.out);have bH:=am (gsz hg HB.out);replace HB:=am (below_step (HB.out) hb);have aB:=am ((by rw[hg];exact Nat.ne_of_lt (blk_lt aA.out):aE≠aF));have aC:=am ((by rw[hg];exact Nat.ne_of_gt (blk_lt aA.out):aF≠aE));replace aA:=am (blk_below aA.out hb);clear hb hbox hg;have lR:=aB.out;have lS:=aC.out;obtain⟨dL,dM,dN,dO,dP,dQ,dR,dS,dT,dU,bT,bU⟩:=bc12 aA.out;obtain⟨dV,dW,dX,dY,dZ,d0,d1,d2,d3,d4,bV,bW⟩:=bf12 aA.out;obtain⟨d5,d6,d7,d8,d9,eA,eB,eC,eD,eE,bX,bY⟩:=bc12 aD.out;obtain⟨eF,eG,eH,eI,eJ,eK,eL,eM,eN,eO,bZ,b0⟩:=bf12 aD.out)|(go_at_call 35;(with_reducible refine(ententeref13_SameNote.calls k aS aT aU _ _ aK aG aH bB bC bD _ _ aL aI aJ bO _ ?side1 ?side2 ?side3 ?side4 A9.out).mono ?_);(case side1=> exact(Kd.C_below bP.out HB.out));(case side2=> exact bQ.out);(case side3=> exact(Kd.C_below bR.out HB.out));(case side4=> exact bS.out);rintro e l7 ⟨rfl,hb⟩;replace aA:=am (blk_below aA.out hb);replace aD:=am (blk_below aD.out hb);replace HB:=am (below_step (HB.out) hb);clear hb))
       go_ret
       exact⟨by rfl,HB.out⟩
      ·rw[if_neg c8]at H
       have lO:=beq_eq_false_iff_ne.mpr c8
       have lP:=bne_iff_ne.mpr c8
       obtain rfl:=Option.some.inj H
       go_enter Tryz.func13,Tryz.ntmps13
       go_wp2_with (first|((with_reducible refine gate_dst (N:=2) rfl ?_);refine box_event ?hg (N:=2) ?hd (cs:=#[i6 aM,i6 aN,i6 aO,i6 aP,i6 aQ,i6 aR,i6 aS,i6 aT,i6 aU,.slice bI aK.length c0_9,.string aG,i6 aH]) (t:=28) ?hr ?_;(case hd=> rfl);(case hg=> rfl);(case hr=> (go_simp;done));intro aE hg l8 hbox hb;have aA:=am (hbox);have bE:=am (gsz hg HB.out);have bF:=am (gsz hg HB.out);replace HB:=am (below_step (HB.out) hb);clear hb hbox hg)|((with_reducible refine gate_dst (N:=3) rfl ?_);refine box_event ?hg (N:=3) ?hd (cs:=#[i6 aV,i6 aW,i6 aX,i6 aY,i6 aZ,i6 bA,i6 bB,i6 bC,i6 bD,.slice bJ aL.length c1_9,.string aI,i6 aJ]) (t:=28) ?hr ?_;(case hd=> rfl);(case hg=> rfl);(case hr=> (go_simp;done));intro aF hg l9 hbox hb;have aD:=am (hbox);have bG:=am (gsz hg HB.out);have bH:=am (gsz hg HB.out);replace HB:=am (below_step (HB.out) hb);have aB:=am ((by rw[hg];exact Nat.ne_of_lt (blk_lt aA.out):aE≠aF));have aC:=am ((by rw[hg];exact Nat.ne_of_gt (blk_lt aA.out):aF≠aE));replace aA:=am (blk_below aA.out hb);clear hb hbox hg;have lT:=aB.out;have lU:=aC.out;obtain⟨eP,eQ,eR,eS,eT,eU,eV,eW,eX,eY,b1,b2⟩:=bc12 aA.out;obtain⟨eZ,e0,e1,e2,e3,e4,e5,e6,e7,e8,b3,b4⟩:=bf12 aA.out;obtain⟨e9,fA,fB,fC,fD,fE,fF,fG,fH,fI,b5,b6⟩:=bc12 aD.out;obtain⟨fJ,fK,fL,fM,fN,fO,fP,fQ,fR,fS,b7,b8⟩:=bf12 aD.out))
       go_ret
       exact⟨by rfl,HB.out⟩
     ·rw[if_neg c7]at H
      have lM:=beq_eq_false_iff_ne.mpr c7
      have lN:=bne_iff_ne.mpr c7
      obtain rfl:=Option.some.inj H
      go_enter Tryz.func13,Tryz.ntmps13
      go_wp2_with (first|((with_reducible refine gate_dst (N:=2) rfl ?_);refine box_event ?hg (N:=2) ?hd (cs:=#[i6 aM,i6 aN,i6 aO,i6 aP,i6 aQ,i6 aR,i6 aS,i6 aT,i6 aU,.slice bI aK.length c0_9,.string aG,i6 aH]) (t:=28) ?hr ?_;(case hd=> rfl);(case hg=> rfl);(case hr=> (go_simp;done));intro aE hg mA hbox hb;have aA:=am (hbox);have bE:=am (gsz hg HB.out);have bF:=am (gsz hg HB.out);replace HB:=am (below_step (HB.out) hb);clear hb hbox hg)|((with_reducible refine gate_dst (N:=3) rfl ?_);refine box_event ?hg (N:=3) ?hd (cs:=#[i6 aV,i6 aW,i6 aX,i6 aY,i6 aZ,i6 bA,i6 bB,i6 bC,i6 bD,.slice bJ aL.length c1_9,.string aI,i6 aJ]) (t:=28) ?hr ?_;(case hd=> rfl);(case hg=> rfl);(case hr=> (go_simp;done));intro aF hg mB hbox hb;have aD:=am (hbox);have bG:=am (gsz hg HB.out);have bH:=am (gsz hg HB.out);replace HB:=am (below_step (HB.out) hb);have aB:=am ((by rw[hg];exact Nat.ne_of_lt (blk_lt aA.out):aE≠aF));have aC:=am ((by rw[hg];exact Nat.ne_of_gt (blk_lt aA.out):aF≠aE));replace aA:=am (blk_below aA.out hb);clear hb hbox hg;have lV:=aB.out;have lW:=aC.out;obtain⟨fT,fU,fV,fW,fX,fY,fZ,f0,f1,f2,b9,cA⟩:=bc12 aA.out;obtain⟨f3,f4,f5,f6,f7,f8,f9,gA,gB,gC,cB,cC⟩:=bf12 aA.out;obtain⟨gD,gE,gF,gG,gH,gI,gJ,gK,gL,gM,cD,cE⟩:=bc12 aD.out;obtain⟨gN,gO,gP,gQ,gR,gS,gT,gU,gV,gW,cF,cG⟩:=bf12 aD.out))
      go_ret
      exact⟨by rfl,HB.out⟩
    ·rw[if_neg c6]at H
     have lK:=beq_eq_false_iff_ne.mpr c6
     have lL:=bne_iff_ne.mpr c6
     obtain rfl:=Option.some.inj H
     go_enter Tryz.func13,Tryz.ntmps13
     go_wp2_with (first|((with_reducible refine gate_dst (N:=2) rfl ?_);refine box_event ?hg (N:=2) ?hd (cs:=#[i6 aM,i6 aN,i6 aO,i6 aP,i6 aQ,i6 aR,i6 aS,i6 aT,i6 aU,.slice bI aK.length c0_9,.string aG,i6 aH]) (t:=28) ?hr ?_;(case hd=> rfl);(case hg=> rfl);(case hr=> (go_simp;done));intro aE hg mC hbox hb;have aA:=am (hbox);have bE:=am (gsz hg HB.out);have bF:=am (gsz hg HB.out);replace HB:=am (below_step (HB.out) hb);clear hb hbox hg)|((with_reducible refine gate_dst (N:=3) rfl ?_);refine box_event ?hg (N:=3) ?hd (cs:=#[i6 aV,i6 aW,i6 aX,i6 aY,i6 aZ,i6 bA,i6 bB,i6 bC,i6 bD,.slice bJ aL.length c1_9,.string aI,i6 aJ]) (t:=28) ?hr ?_;(case hd=> rfl);(case hg=> rfl);(case hr=> (go_simp;done));intro aF hg mD hbox hb;have aD:=am (hbox);have bG:=am (gsz hg HB.out);have bH:=am (gsz hg HB.out);replace HB:=am (below_step (HB.out) hb);have aB:=am ((by rw[hg];exact Nat.ne_of_lt (blk_lt aA.out):aE≠aF));have aC:=am ((by rw[hg];exact Nat.ne_of_gt (blk_lt aA.out):aF≠aE));replace aA:=am (blk_below aA.out hb);clear hb hbox hg;have lX:=aB.out;have lY:=aC.out;obtain⟨gX,gY,gZ,g0,g1,g2,g3,g4,g5,g6,cH,cI⟩:=bc12 aA.out;obtain⟨g7,g8,g9,hA,hB,hC,hD,hE,hF,hG,cJ,cK⟩:=bf12 aA.out;obtain⟨hH,hI,hJ,hK,hL,hM,hN,hO,hP,hQ,cL,cM⟩:=bc12 aD.out;obtain⟨hR,hS,hT,hU,hV,hW,hX,hY,hZ,h0,cN,cO⟩:=bf12 aD.out))
     go_ret
     exact⟨by rfl,HB.out⟩
   ·rw[if_neg c5]at H
    have lI:=beq_eq_false_iff_ne.mpr c5
    have lJ:=bne_iff_ne.mpr c5
    obtain rfl:=Option.some.inj H
    go_enter Tryz.func13,Tryz.ntmps13
    go_wp2_with (first|((with_reducible refine gate_dst (N:=2) rfl ?_);refine box_event ?hg (N:=2) ?hd (cs:=#[i6 aM,i6 aN,i6 aO,i6 aP,i6 aQ,i6 aR,i6 aS,i6 aT,i6 aU,.slice bI aK.length c0_9,.string aG,i6 aH]) (t:=28) ?hr ?_;(case hd=> rfl);(case hg=> rfl);(case hr=> (go_simp;done));intro aE hg mE hbox hb;have aA:=am (hbox);have bE:=am (gsz hg HB.out);have bF:=am (gsz hg HB.out);replace HB:=am (below_step (HB.out) hb);clear hb hbox hg)|((with_reducible refine gate_dst (N:=3) rfl ?_);refine box_event ?hg (N:=3) ?hd (cs:=#[i6 aV,i6 aW,i6 aX,i6 aY,i6 aZ,i6 bA,i6 bB,i6 bC,i6 bD,.slice bJ aL.length c1_9,.string aI,i6 aJ]) (t:=28) ?hr ?_;(case hd=> rfl);(case hg=> rfl);(case hr=> (go_simp;done));intro aF hg mF hbox hb;have aD:=am (hbox);have bG:=am (gsz hg HB.out);have bH:=am (gsz hg HB.out);replace HB:=am (below_step (HB.out) hb);have aB:=am ((by rw[hg];exact Nat.ne_of_lt (blk_lt aA.out):aE≠aF));have aC:=am ((by rw[hg];exact Nat.ne_of_gt (blk_lt aA.out):aF≠aE));replace aA:=am (blk_below aA.out hb);clear hb hbox hg;have lZ:=aB.out;have l0:=aC.out;obtain⟨h1,h2,h3,h4,h5,h6,h7,h8,h9,iA,cP,cQ⟩:=bc12 aA.out;obtain⟨iB,iC,iD,iE,iF,iG,iH,iI,iJ,iK,cR,cS⟩:=bf12 aA.out;obtain⟨iL,iM,iN,iO,iP,iQ,iR,iS,iT,iU,cT,cU⟩:=bc12 aD.out;obtain⟨iV,iW,iX,iY,iZ,i0,i1,i2,i3,i4,cV,cW⟩:=bf12 aD.out))
    go_ret
    exact⟨by rfl,HB.out⟩
  ·rw[if_neg c4]at H
   have lG:=beq_eq_false_iff_ne.mpr c4
   have lH:=bne_iff_ne.mpr c4
   obtain rfl:=Option.some.inj H
   go_enter Tryz.func13,Tryz.ntmps13
   go_wp2_with (first|((with_reducible refine gate_dst (N:=2) rfl ?_);refine box_event ?hg (N:=2) ?hd (cs:=#[i6 aM,i6 aN,i6 aO,i6 aP,i6 aQ,i6 aR,i6 aS,i6 aT,i6 aU,.slice bI aK.length c0_9,.string aG,i6 aH]) (t:=28) ?hr ?_;(case hd=> rfl);(case hg=> rfl);(case hr=> (go_simp;done));intro aE hg mG hbox hb;have aA:=am (hbox);have bE:=am (gsz hg HB.out);have bF:=am (gsz hg HB.out);replace HB:=am (below_step (HB.out) hb);clear hb hbox hg)|((with_reducible refine gate_dst (N:=3) rfl ?_);refine box_event ?hg (N:=3) ?hd (cs:=#[i6 aV,i6 aW,i6 aX,i6 aY,i6 aZ,i6 bA,i6 bB,i6 bC,i6 bD,.slice bJ aL.length c1_9,.string aI,i6 aJ]) (t:=28) ?hr ?_;(case hd=> rfl);(case hg=> rfl);(case hr=> (go_simp;done));intro aF hg mH hbox hb;have aD:=am (hbox);have bG:=am (gsz hg HB.out);have bH:=am (gsz hg HB.out);replace HB:=am (below_step (HB.out) hb);have aB:=am ((by rw[hg];exact Nat.ne_of_lt (blk_lt aA.out):aE≠aF));have aC:=am ((by rw[hg];exact Nat.ne_of_gt (blk_lt aA.out):aF≠aE));replace aA:=am (blk_below aA.out hb);clear hb hbox hg;have l1:=aB.out;have l2:=aC.out;obtain⟨i5,i7,i8,i9,jA,jB,jC,jD,jE,jF,cX,cY⟩:=bc12 aA.out;obtain⟨jG,jH,jI,jJ,jK,jL,jM,jN,jO,jP,cZ,c0⟩:=bf12 aA.out;obtain⟨jQ,jR,jS,jT,jU,jV,jW,jX,jY,jZ,c1,dA⟩:=bc12 aD.out;obtain⟨j0,j1,j2,j3,j4,j5,j6,j7,j8,j9,dB,dC⟩:=bf12 aD.out))
   go_ret
   exact⟨by rfl,HB.out⟩
 ·rw[if_neg c3]at H
  have lE:=beq_eq_false_iff_ne.mpr c3
  have lF:=bne_iff_ne.mpr c3
  obtain rfl:=Option.some.inj H
  go_enter Tryz.func13,Tryz.ntmps13
  go_wp2_with (first|((with_reducible refine gate_dst (N:=2) rfl ?_);refine box_event ?hg (N:=2) ?hd (cs:=#[i6 aM,i6 aN,i6 aO,i6 aP,i6 aQ,i6 aR,i6 aS,i6 aT,i6 aU,.slice bI aK.length c0_9,.string aG,i6 aH]) (t:=28) ?hr ?_;(case hd=> rfl);(case hg=> rfl);(case hr=> (go_simp;done));intro aE hg mI hbox hb;have aA:=am (hbox);have bE:=am (gsz hg HB.out);have bF:=am (gsz hg HB.out);replace HB:=am (below_step (HB.out) hb);clear hb hbox hg)|((with_reducible refine gate_dst (N:=3) rfl ?_);refine box_event ?hg (N:=3) ?hd (cs:=#[i6 aV,i6 aW,i6 aX,i6 aY,i6 aZ,i6 bA,i6 bB,i6 bC,i6 bD,.slice bJ aL.length c1_9,.string aI,i6 aJ]) (t:=28) ?hr ?_;(case hd=> rfl);(case hg=> rfl);(case hr=> (go_simp;done));intro aF hg mJ hbox hb;have aD:=am (hbox);have bG:=am (gsz hg HB.out);have bH:=am (gsz hg HB.out);replace HB:=am (below_step (HB.out) hb);have aB:=am ((by rw[hg];exact Nat.ne_of_lt (blk_lt aA.out):aE≠aF));have aC:=am ((by rw[hg];exact Nat.ne_of_gt (blk_lt aA.out):aF≠aE));replace aA:=am (blk_below aA.out hb);clear hb hbox hg;have l3:=aB.out;have l4:=aC.out;obtain⟨kA,kB,kC,kD,kE,kF,kG,kH,kI,kJ,dD,dE⟩:=bc12 aA.out;obtain⟨kK,kL,kM,kN,kO,kP,kQ,kR,kS,kT,dF,dG⟩:=bf12 aA.out;obtain⟨kU,kV,kW,kX,kY,kZ,k0,k1,k2,k3,dH,dI⟩:=bc12 aD.out;obtain⟨k4,k5,k6,k7,k8,k9,lA,lB,lC,lD,dJ,dK⟩:=bf12 aD.out))
  go_ret
  exact⟨by rfl,HB.out⟩

/-! ### note_word: function 36 -/
def note_word.ws:List ByteArray:=[⟨#[]⟩,⟨#[111,102,102,101,114]⟩,⟨#[114,101,110,101,119]⟩,⟨#[99,111,109,109,105,116]⟩,⟨#[117,110,100,111]⟩,⟨#[104,101,108,100]⟩,⟨#[103,111,110,101]⟩,⟨#[107,101,112,116]⟩]
def note_word.f (a0:Int):Option ByteArray:=if 0≤a0∧a0< 8 then some (note_word.ws.getD a0.toNat ⟨#[]⟩)else none
theorem note_word.at_ (i:Nat) (hi:i< 8) (w:World):(Instr.index 99 (.agg #[.string ⟨#[]⟩,.string ⟨#[111,102,102,101,114]⟩,.string ⟨#[114,101,110,101,119]⟩,.string ⟨#[99,111,109,109,105,116]⟩,.string ⟨#[117,110,100,111]⟩,.string ⟨#[104,101,108,100]⟩,.string ⟨#[103,111,110,101]⟩,.string ⟨#[107,101,112,116]⟩]) (i6 (i:Int))).run Tryz.prog w=.ok (.string (note_word.ws.getD i ⟨#[]⟩)) w:=by
 have hc:i=0 ∨ i=1 ∨ i=2 ∨ i=3 ∨ i=4 ∨ i=5 ∨ i=6 ∨ i=7:=by omega
 rcases hc with rfl|rfl|rfl|rfl|rfl|rfl|rfl|rfl
 all_goals (show _=_;kernel_rfl)
set_option maxHeartbeats 4000000 in
set_option maxRecDepth 100000 in
theorem note_word.calls (a0:Int) (r:ByteArray) (w:World) (h:note_word.f a0=some r):Calls Tryz.prog 36 #[i6 a0] w fun e w'=> e=.returned (.string r)∧Drawn0 w w':=by
 unfold note_word.f at h
 by_cases hb:0≤a0∧a0< 8
 case neg=> rw[if_neg hb]at h;cases h
 rw[if_pos hb]at h
 obtain rfl:=Option.some.inj h
 clear h
 obtain⟨i,rfl⟩:=Int.eq_ofNat_of_zero_le hb.1
 have hs:=note_word.at_ i (by omega) w
 rw[Int.toNat_natCast]
 clear hb
 go_enter Tryz.func36,Tryz.ntmps36
 go_wp2
 go_ret
 exact⟨rfl,⟨0,rfl⟩⟩

/-! ### note_Show: function 14 -/
def note_Show.f (k:Nat) (aB:Int) (aD:Int) (aE:Int) (aC:List (S46)) (aF:ByteArray) (aG:Int):Option (ByteArray×Int):=(note_Check.f k aB aD aE aC aF aG).bind fun aO=> (if aO=0 then((ident_Show.f k aD aE aC).bind fun aL=> ((note_word.f aB).bind fun aH=> (if aH.size+1≤9223372036854775807 then(if aH.size+1+aL.1.size≤9223372036854775807 then(if aB=1 then(if 1+aF.size≤9223372036854775807 then(if aH.size+1+aL.1.size+(1+aF.size)≤9223372036854775807 then(some (((aH++(⟨#[32]⟩:ByteArray))++aL.1)++((⟨#[32]⟩:ByteArray)++aF),0))else(none))else(none))else(if aB=6 then((strconv_Itoa.f aG).bind fun aM=> (if 1+aM.size≤9223372036854775807 then(if aH.size+1+aL.1.size+(1+aM.size)≤9223372036854775807 then(some (((aH++(⟨#[32]⟩:ByteArray))++aL.1)++((⟨#[32]⟩:ByteArray)++aM),0))else(none))else(none)))else(some ((aH++(⟨#[32]⟩:ByteArray))++aL.1,0))))else(none))else(none))))else(some ((⟨#[]⟩:ByteArray),aO)))
theorem note_Show.mono:∀ a0 a1 a2 a3 a4 a5 k,LeO (note_Show.f k a0 a1 a2 a3 a4 a5) (note_Show.f (k+1) a0 a1 a2 a3 a4 a5):=by
 intro a0 a1 a2 a3 a4 a5 k
 unfold note_Show.f
 repeat' with_reducible first|apply ident_Show.mono|apply note_Check.mono|apply LeO.refl|apply LeO.none|refine LeO.ite ?_ ?_|refine LeO.bind ?_ (fun _=> ?_)
set_option maxHeartbeats 8000000 in
set_option maxRecDepth 100000 in
theorem note_Show.calls (k:Nat) (aB:Int) (aD:Int) (aE:Int) (aI:Option Addr) (c0_3:Nat) (aC:List (S46)) (aF:ByteArray) (aG:Int) (r1:ByteArray) (r2:Int) (w:World) (aS:Kd.C k46 w aI aC.length aC) (aT:aC.length≤c0_3) (hw_:WH w) (h:note_Show.f k aB aD aE aC aF aG=some (r1,r2)) :
  Calls Tryz.prog 14 #[.agg #[i6 aB,i6 aD,i6 aE,.slice aI aC.length c0_3,.string aF,i6 aG]] w fun e w'=> e=.returned (.tuple #[.string r1,i6 r2])∧Below w.heap.size w w':=by
 have hu26:=Tryz.underlying26
 have hu24:=Tryz.underlying24
 have aJ:=am aS
 have aK:=am aT
 clear aS aT
 have HWH_:=am hw_
 clear hw_
 have HB:=am (Below.refl w.heap.size w)
 unfold note_Show.f at h
 have H:=h
 clear h
 obtain⟨aO,eV,H⟩:=Option.bind_eq_some_iff.mp H
 try dsimp only at H
 have A2:=am eV
 clear eV
 by_cases c3:aO=0
 ·rw[if_pos c3]at H
  have eR:=beq_iff_eq.mpr c3
  have eS:=bne_eq_false_iff_eq.mpr c3
  clear c3
  obtain⟨⟨aN,aU⟩,eW,H⟩:=Option.bind_eq_some_iff.mp H
  try dsimp only at H
  have A4:=am eW
  clear eW
  obtain⟨aH,eX,H⟩:=Option.bind_eq_some_iff.mp H
  try dsimp only at H
  have A5:=am eX
  clear eX
  by_cases c6:aH.size+1≤9223372036854775807
  ·rw[if_pos c6]at H
   have e7:=eq_true c6
   have e8:=decide_eq_true c6
   try have e9:(9223372036854775807< aH.size+1)=False:=eq_false (Nat.not_lt.2 c6)
   by_cases c7:aH.size+1+aN.size≤9223372036854775807
   ·rw[if_pos c7]at H
    have fA:=eq_true c7
    have fB:=decide_eq_true c7
    try have fC:(9223372036854775807< aH.size+1+aN.size)=False:=eq_false (Nat.not_lt.2 c7)
    by_cases c8:aB=1
    ·rw[if_pos c8]at H
     have eT:=beq_iff_eq.mpr c8
     have eU:=bne_eq_false_iff_eq.mpr c8
     clear c8
     by_cases c9:1+aF.size≤9223372036854775807
     ·rw[if_pos c9]at H
      have fD:=eq_true c9
      have fE:=decide_eq_true c9
      try have fF:(9223372036854775807< 1+aF.size)=False:=eq_false (Nat.not_lt.2 c9)
      by_cases c10:aH.size+1+aN.size+(1+aF.size)≤9223372036854775807
      ·rw[if_pos c10]at H
       have eY:=eq_true c10
       have eZ:=decide_eq_true c10
       try have e0:(9223372036854775807< aH.size+1+aN.size+(1+aF.size))=False:=eq_false (Nat.not_lt.2 c10)
       simp only[Option.some.injEq,Prod.mk.injEq]at H
       obtain⟨rfl,rfl⟩:=H
       go_enter Tryz.func14,Tryz.ntmps14
       go_wp2_with (first|((with_reducible refine gate_dst (N:=1) rfl ?_);refine box_event ?hg (N:=1) ?hd (cs:=#[i6 aB,i6 aD,i6 aE,.slice aI aC.length c0_3,.string aF,i6 aG]) (t:=26) ?hr ?_;(case hd=> rfl);(case hg=> rfl);(case hr=> (go_simp;done));intro aP hg fH hbox hb;have aA:=am (hbox);have aQ:=am (gsz hg HB.out);have aR:=am (gsz hg HB.out);replace HB:=am (below_step (HB.out) hb);clear hb hbox hg;obtain⟨a7,a8,a9,bA,bB,bC⟩:=bc6 aA.out;obtain⟨bD,bE,bF,bG,bH,bI⟩:=bf6 aA.out)|((with_reducible refine gate_callee (f:=16) rfl ?_);refine goesL_ (some 9) rfl rfl Tryz.func16 (by kernel_rfl) rfl #[.agg #[i6 aB,i6 aD,i6 aE,.slice aI aC.length c0_3,.string aF,i6 aG]] rfl (by(try simp only[l_m,l_c,l_n]);rfl) ?_;(with_reducible refine(note_Check.calls k aB aD aE _ _ aC aF aG aO _ ?side1 ?side2 A2.out).mono ?_);(case side1=> exact(Kd.C_below aJ.out HB.out));(case side2=> exact aK.out);rintro e fI ⟨rfl,hb⟩;refine⟨_,rfl,?_⟩;replace aA:=am (blk_below aA.out hb);replace HB:=am (below_step (HB.out) hb);clear hb;obtain⟨bJ,bK,bL,bM,bN,bO⟩:=bc6 aA.out;obtain⟨bP,bQ,bR,bS,bT,bU⟩:=bf6 aA.out)|((with_reducible refine gate_callee (f:=19) rfl ?_);refine goesL_ (some 16) rfl rfl Tryz.func19 (by kernel_rfl) rfl #[.agg #[i6 aD,i6 aE,.slice aI aC.length c0_3]] rfl (by(try simp only[l_m,l_c,l_n]);rfl) ?_;(with_reducible refine(ident_Show.calls k aD aE _ _ aC aN aU _ ?side1 ?side2 ?side3 A4.out).mono ?_);(case side1=> exact(Kd.C_below aJ.out HB.out));(case side2=> exact aK.out);(case side3=> exact WH.below HWH_.out (HB.out));rintro e fJ ⟨rfl,hb⟩;refine⟨_,rfl,?_⟩;replace aA:=am (blk_below aA.out hb);replace HB:=am (below_step (HB.out) hb);clear hb;obtain⟨bV,bW,bX,bY,bZ,b0⟩:=bc6 aA.out;obtain⟨b1,b2,b3,b4,b5,b6⟩:=bf6 aA.out)|((with_reducible refine gate_callee (f:=36) rfl ?_);refine goesL_ (some 21) rfl rfl Tryz.func36 (by kernel_rfl) rfl #[i6 aB] rfl (by(try simp only[l_m,l_c,l_n]);rfl) ?_;(with_reducible refine(note_word.calls aB aH _ A5.out).mono ?_);rintro e w' ⟨rfl,⟨nd,rfl⟩⟩;refine⟨_,rfl,?_⟩))
       go_ret2
       exact⟨by rfl,pw_below_drewN HB.out _⟩
      ·rw[if_neg c10]at H
       exact absurd H (by simp)
     ·rw[if_neg c9]at H
      exact absurd H (by simp)
    ·rw[if_neg c8]at H
     have eT:=beq_eq_false_iff_ne.mpr c8
     have eU:=bne_iff_ne.mpr c8
     by_cases aV:aB=6
     ·rw[if_pos aV]at H
      have aW:=beq_iff_eq.mpr aV
      have aX:=bne_eq_false_iff_eq.mpr aV
      clear aV
      obtain⟨aM,aY,H⟩:=Option.bind_eq_some_iff.mp H
      try dsimp only at H
      have fG:=am aY
      clear aY
      by_cases aZ:1+aM.size≤9223372036854775807
      ·rw[if_pos aZ]at H
       have e1:=eq_true aZ
       have e2:=decide_eq_true aZ
       try have e3:(9223372036854775807< 1+aM.size)=False:=eq_false (Nat.not_lt.2 aZ)
       by_cases a6:aH.size+1+aN.size+(1+aM.size)≤9223372036854775807
       ·rw[if_pos a6]at H
        have e4:=eq_true a6
        have e5:=decide_eq_true a6
        try have e6:(9223372036854775807< aH.size+1+aN.size+(1+aM.size))=False:=eq_false (Nat.not_lt.2 a6)
        simp only[Option.some.injEq,Prod.mk.injEq]at H
        obtain⟨rfl,rfl⟩:=H
        go_enter Tryz.func14,Tryz.ntmps14
        go_wp2_with (first|((with_reducible refine gate_dst (N:=1) rfl ?_);refine box_event ?hg (N:=1) ?hd (cs:=#[i6 aB,i6 aD,i6 aE,.slice aI aC.length c0_3,.string aF,i6 aG]) (t:=26) ?hr ?_;(case hd=> rfl);(case hg=> rfl);(case hr=> (go_simp;done));intro aP hg fK hbox hb;have aA:=am (hbox);have aQ:=am (gsz hg HB.out);have aR:=am (gsz hg HB.out);replace HB:=am (below_step (HB.out) hb);clear hb hbox hg;obtain⟨b7,b8,b9,cA,cB,cC⟩:=bc6 aA.out;obtain⟨cD,cE,cF,cG,cH,cI⟩:=bf6 aA.out)|((with_reducible refine gate_callee (f:=16) rfl ?_);refine goesL_ (some 9) rfl rfl Tryz.func16 (by kernel_rfl) rfl #[.agg #[i6 aB,i6 aD,i6 aE,.slice aI aC.length c0_3,.string aF,i6 aG]] rfl (by(try simp only[l_m,l_c,l_n]);rfl) ?_;(with_reducible refine(note_Check.calls k aB aD aE _ _ aC aF aG aO _ ?side1 ?side2 A2.out).mono ?_);(case side1=> exact(Kd.C_below aJ.out HB.out));(case side2=> exact aK.out);rintro e fL ⟨rfl,hb⟩;refine⟨_,rfl,?_⟩;replace aA:=am (blk_below aA.out hb);replace HB:=am (below_step (HB.out) hb);clear hb;obtain⟨cJ,cK,cL,cM,cN,cO⟩:=bc6 aA.out;obtain⟨cP,cQ,cR,cS,cT,cU⟩:=bf6 aA.out)|((with_reducible refine gate_callee (f:=19) rfl ?_);refine goesL_ (some 16) rfl rfl Tryz.func19 (by kernel_rfl) rfl #[.agg #[i6 aD,i6 aE,.slice aI aC.length c0_3]] rfl (by(try simp only[l_m,l_c,l_n]);rfl) ?_;(with_reducible refine(ident_Show.calls k aD aE _ _ aC aN aU _ ?side1 ?side2 ?side3 A4.out).mono ?_);(case side1=> exact(Kd.C_below aJ.out HB.out));(case side2=> exact aK.out);(case side3=> exact WH.below HWH_.out (HB.out));rintro e fM ⟨rfl,hb⟩;refine⟨_,rfl,?_⟩;replace aA:=am (blk_below aA.out hb);replace HB:=am (below_step (HB.out) hb);clear hb;obtain⟨cV,cW,cX,cY,cZ,c0⟩:=bc6 aA.out;obtain⟨c1,dA,dB,dC,dD,dE⟩:=bf6 aA.out)|((with_reducible refine gate_callee (f:=36) rfl ?_);refine goesL_ (some 21) rfl rfl Tryz.func36 (by kernel_rfl) rfl #[i6 aB] rfl (by(try simp only[l_m,l_c,l_n]);rfl) ?_;(with_reducible refine(note_word.calls aB aH _ A5.out).mono ?_);rintro e w' ⟨rfl,⟨nd,rfl⟩⟩;refine⟨_,rfl,?_⟩)|((with_reducible refine gate_callee (f:=37) rfl ?_);refine goesL_ (some 39) rfl rfl Tryz.func37 (by kernel_rfl) rfl #[i6 aG] rfl (by(try simp only[l_m,l_c,l_n]);rfl) ?_;(with_reducible refine(strconv_Itoa.calls aG aM _ ?side1 fG.out).mono ?_);(case side1=> exact WH.below HWH_.out (pw_below_drewN HB.out _));rintro e fN ⟨rfl,hb⟩;refine⟨_,rfl,?_⟩;replace aA:=am (blk_below (g:=aP) (o:=.cells #[i6 aB,i6 aD,i6 aE,.slice aI aC.length c0_3,.string aF,i6 aG] 26 (0,0)) (by refine blk_drewN ?_ _;exact aA.out) hb);replace HB:=am (below_step (pw_below_drewN HB.out _) hb);clear hb))
        go_ret2
        exact⟨by rfl,HB.out⟩
       ·rw[if_neg a6]at H
        exact absurd H (by simp)
      ·rw[if_neg aZ]at H
       exact absurd H (by simp)
     ·rw[if_neg aV]at H
      have aW:=beq_eq_false_iff_ne.mpr aV
      have aX:=bne_iff_ne.mpr aV
      simp only[Option.some.injEq,Prod.mk.injEq]at H
      obtain⟨rfl,rfl⟩:=H
      go_enter Tryz.func14,Tryz.ntmps14
      go_wp2_with (first|((with_reducible refine gate_dst (N:=1) rfl ?_);refine box_event ?hg (N:=1) ?hd (cs:=#[i6 aB,i6 aD,i6 aE,.slice aI aC.length c0_3,.string aF,i6 aG]) (t:=26) ?hr ?_;(case hd=> rfl);(case hg=> rfl);(case hr=> (go_simp;done));intro aP hg fO hbox hb;have aA:=am (hbox);have aQ:=am (gsz hg HB.out);have aR:=am (gsz hg HB.out);replace HB:=am (below_step (HB.out) hb);clear hb hbox hg;obtain⟨dF,dG,dH,dI,dJ,dK⟩:=bc6 aA.out;obtain⟨dL,dM,dN,dO,dP,dQ⟩:=bf6 aA.out)|((with_reducible refine gate_callee (f:=16) rfl ?_);refine goesL_ (some 9) rfl rfl Tryz.func16 (by kernel_rfl) rfl #[.agg #[i6 aB,i6 aD,i6 aE,.slice aI aC.length c0_3,.string aF,i6 aG]] rfl (by(try simp only[l_m,l_c,l_n]);rfl) ?_;(with_reducible refine(note_Check.calls k aB aD aE _ _ aC aF aG aO _ ?side1 ?side2 A2.out).mono ?_);(case side1=> exact(Kd.C_below aJ.out HB.out));(case side2=> exact aK.out);rintro e fP ⟨rfl,hb⟩;refine⟨_,rfl,?_⟩;replace aA:=am (blk_below aA.out hb);replace HB:=am (below_step (HB.out) hb);clear hb;obtain⟨dR,dS,dT,dU,dV,dW⟩:=bc6 aA.out;obtain⟨dX,dY,dZ,d0,d1,d2⟩:=bf6 aA.out)|((with_reducible refine gate_callee (f:=19) rfl ?_);refine goesL_ (some 16) rfl rfl Tryz.func19 (by kernel_rfl) rfl #[.agg #[i6 aD,i6 aE,.slice aI aC.length c0_3]] rfl (by(try simp only[l_m,l_c,l_n]);rfl) ?_;(with_reducible refine(ident_Show.calls k aD aE _ _ aC aN aU _ ?side1 ?side2 ?side3 A4.out).mono ?_);(case side1=> exact(Kd.C_below aJ.out HB.out));(case side2=> exact aK.out);(case side3=> exact WH.below HWH_.out (HB.out));rintro e fQ ⟨rfl,hb⟩;refine⟨_,rfl,?_⟩;replace aA:=am (blk_below aA.out hb);replace HB:=am (below_step (HB.out) hb);clear hb;obtain⟨d3,d4,d5,d6,d7,d8⟩:=bc6 aA.out;obtain⟨d9,eA,eB,eC,eD,eE⟩:=bf6 aA.out)|((with_reducible refine gate_callee (f:=36) rfl ?_);refine goesL_ (some 21) rfl rfl Tryz.func36 (by kernel_rfl) rfl #[i6 aB] rfl (by(try simp only[l_m,l_c,l_n]);rfl) ?_;(with_reducible refine(note_word.calls aB aH _ A5.out).mono ?_);rintro e w' ⟨rfl,⟨nd,rfl⟩⟩;refine⟨_,rfl,?_⟩))
      go_ret2
      exact⟨by rfl,pw_below_drewN HB.out _⟩
   ·rw[if_neg c7]at H
    exact absurd H (by simp)
  ·rw[if_neg c6]at H
   exact absurd H (by simp)
 ·rw[if_neg c3]at H
  have eR:=beq_eq_false_iff_ne.mpr c3
  have eS:=bne_iff_ne.mpr c3
  simp only[Option.some.injEq,Prod.mk.injEq]at H
  obtain⟨rfl,rfl⟩:=H
  go_enter Tryz.func14,Tryz.ntmps14
  go_wp2_with (first|((with_reducible refine gate_dst (N:=1) rfl ?_);refine box_event ?hg (N:=1) ?hd (cs:=#[i6 aB,i6 aD,i6 aE,.slice aI aC.length c0_3,.string aF,i6 aG]) (t:=26) ?hr ?_;(case hd=> rfl);(case hg=> rfl);(case hr=> (go_simp;done));intro aP hg fR hbox hb;have aA:=am (hbox);have aQ:=am (gsz hg HB.out);have aR:=am (gsz hg HB.out);replace HB:=am (below_step (HB.out) hb);clear hb hbox hg;obtain⟨eF,eG,eH,eI,eJ,eK⟩:=bc6 aA.out;obtain⟨eL,eM,eN,eO,eP,eQ⟩:=bf6 aA.out)|((with_reducible refine gate_callee (f:=16) rfl ?_);refine goesL_ (some 9) rfl rfl Tryz.func16 (by kernel_rfl) rfl #[.agg #[i6 aB,i6 aD,i6 aE,.slice aI aC.length c0_3,.string aF,i6 aG]] rfl (by(try simp only[l_m,l_c,l_n]);rfl) ?_;(with_reducible refine(note_Check.calls k aB aD aE _ _ aC aF aG aO _ ?side1 ?side2 A2.out).mono ?_);(case side1=> exact(Kd.C_below aJ.out HB.out));(case side2=> exact aK.out);rintro e fS ⟨rfl,hb⟩;refine⟨_,rfl,?_⟩;replace aA:=am (blk_below aA.out hb);replace HB:=am (below_step (HB.out) hb);clear hb))
  go_ret2
  exact⟨by rfl,HB.out⟩

/-! ### ententelaw13_awake: function 6 -/
def ententelaw13_awake.f (k:Nat)  : Option (Bool):=(some (([(⟨2,3⟩:S46)]:List (S46)):List (S46))).bind fun aE=> ((note_Show.f k 1 0 7 aE (⟨#[104,111,116,101,108]⟩:ByteArray) 0).bind fun a8=> ((note_Encode.f k 0 3 1 4 0 0 1 0 7 aE (⟨#[104,111,116,101,108]⟩:ByteArray) 0).bind fun a9=> ((note_Decode.f k a9.1).bind fun aC=> ((note_Ends.f k 1 0 7 aE (⟨#[104,111,116,101,108]⟩:ByteArray) 0).bind fun bA=> ((note_Decode.f k (⟨#[120]⟩:ByteArray)).bind fun bQ=> (if a8.1.toList=([111,102,102,101,114,32,48,46,55,47,50,64,51,32,104,111,116,101,108]:List UInt8)then(if a8.2=0 then(if a9.2=0 then(if aC.2.2.2.2.2.2.2.2.2.2.2.2=0 then((ententeref13_Same.f k aC.1 aC.2.1 aC.2.2.1 aC.2.2.2.1 aC.2.2.2.2.1 aC.2.2.2.2.2.1 aC.2.2.2.2.2.2.1 aC.2.2.2.2.2.2.2.1 aC.2.2.2.2.2.2.2.2.1 aC.2.2.2.2.2.2.2.2.2.1 aC.2.2.2.2.2.2.2.2.2.2.1 aC.2.2.2.2.2.2.2.2.2.2.2.1 0 3 1 4 0 0 1 0 7 aE (⟨#[104,111,116,101,108]⟩:ByteArray) 0).bind fun bR=> (if bR=true then(if bA.1=0 then(if bA.2=3 then(if bQ.2.2.2.2.2.2.2.2.2.2.2.2=20 then((note_Check.f k 0 0 0 ([]:List (S46)) (⟨#[]⟩:ByteArray) 0).bind fun bD=> (some (bD==130)))else(none))else(none))else(none))else(none)))else(none))else(none))else(none))else(none)))))))
theorem ententelaw13_awake.mono:∀ k,LeO (ententelaw13_awake.f k) (ententelaw13_awake.f (k+1)):=by
 intro  k
 unfold ententelaw13_awake.f
 repeat' with_reducible first|apply ententeref13_Same.mono|apply note_Check.mono|apply note_Decode.mono|apply note_Encode.mono|apply note_Ends.mono|apply note_Show.mono|apply LeO.refl|apply LeO.none|refine LeO.ite ?_ ?_|refine LeO.bind ?_ (fun _=> ?_)
set_option maxHeartbeats 8000000 in
set_option maxRecDepth 100000 in
theorem ententelaw13_awake.calls (k:Nat)  (r:Bool) (w:World) (hw_:WH w) (h:ententelaw13_awake.f k  =some r) :
  Calls Tryz.prog 6 #[] w fun e w'=> e=.returned (.bool r)∧Below w.heap.size w w':=by
 have hu46:=Tryz.underlying46
 have hu24:=Tryz.underlying24
 have hu26:=Tryz.underlying26
 have hu28:=Tryz.underlying28
 have HWH_:=am hw_
 clear hw_
 have HB:=am (Below.refl w.heap.size w)
 unfold ententelaw13_awake.f at h
 have H:=h
 clear h
 obtain⟨aE,hy280⟩:∃ y_:List (S46),y_=(([(⟨2,3⟩:S46)]:List (S46))):=⟨_,rfl⟩
 replace H:((note_Show.f k 1 0 7 aE (⟨#[104,111,116,101,108]⟩:ByteArray) 0).bind fun a8=> ((note_Encode.f k 0 3 1 4 0 0 1 0 7 aE (⟨#[104,111,116,101,108]⟩:ByteArray) 0).bind fun a9=> ((note_Decode.f k a9.1).bind fun aC=> ((note_Ends.f k 1 0 7 aE (⟨#[104,111,116,101,108]⟩:ByteArray) 0).bind fun bA=> ((note_Decode.f k (⟨#[120]⟩:ByteArray)).bind fun bQ=> (if a8.1.toList=([111,102,102,101,114,32,48,46,55,47,50,64,51,32,104,111,116,101,108]:List UInt8)then(if a8.2=0 then(if a9.2=0 then(if aC.2.2.2.2.2.2.2.2.2.2.2.2=0 then((ententeref13_Same.f k aC.1 aC.2.1 aC.2.2.1 aC.2.2.2.1 aC.2.2.2.2.1 aC.2.2.2.2.2.1 aC.2.2.2.2.2.2.1 aC.2.2.2.2.2.2.2.1 aC.2.2.2.2.2.2.2.2.1 aC.2.2.2.2.2.2.2.2.2.1 aC.2.2.2.2.2.2.2.2.2.2.1 aC.2.2.2.2.2.2.2.2.2.2.2.1 0 3 1 4 0 0 1 0 7 aE (⟨#[104,111,116,101,108]⟩:ByteArray) 0).bind fun bR=> (if bR=true then(if bA.1=0 then(if bA.2=3 then(if bQ.2.2.2.2.2.2.2.2.2.2.2.2=20 then((note_Check.f k 0 0 0 ([]:List (S46)) (⟨#[]⟩:ByteArray) 0).bind fun bD=> (some (bD==130)))else(none))else(none))else(none))else(none)))else(none))else(none))else(none))else(none)))))))=some r:=by(have H2_:=(Option.bind_some _ _).symm.trans H;rw[hy280];with_reducible exact H2_)
 have Ny280:=am hy280
 clear hy280
 obtain⟨⟨b4,b5⟩,c0,H⟩:=Option.bind_eq_some_iff.mp H
 try dsimp only at H
 have A1:=am c0
 clear c0
 obtain⟨⟨bZ,b6⟩,g2,H⟩:=Option.bind_eq_some_iff.mp H
 try dsimp only at H
 have A2:=am g2
 clear g2
 obtain⟨⟨aK,aL,aO,aR,aT,aX,a5,bB,bE,a6,bS,bW,b7⟩,g3,H⟩:=Option.bind_eq_some_iff.mp H
 try dsimp only at H
 have A3:=am g3
 clear g3
 obtain⟨⟨b0,b1⟩,g4,H⟩:=Option.bind_eq_some_iff.mp H
 try dsimp only at H
 have A4:=am g4
 clear g4
 obtain⟨⟨aP,aS,aU,aY,a7,bC,bF,bH,bT,bI,b2,b8,b3⟩,g5,H⟩:=Option.bind_eq_some_iff.mp H
 try dsimp only at H
 have A5:=am g5
 clear g5
 by_cases c6:b4.toList=([111,102,102,101,114,32,48,46,55,47,50,64,51,32,104,111,116,101,108]:List UInt8)
 ·rw[if_pos c6]at H
  have hS:=beq_iff_eq.mpr c6
  have hT:=bne_eq_false_iff_eq.mpr c6
  clear c6
  by_cases c7:b5=0
  ·rw[if_pos c7]at H
   have hU:=beq_iff_eq.mpr c7
   have hV:=bne_eq_false_iff_eq.mpr c7
   clear c7
   by_cases c8:b6=0
   ·rw[if_pos c8]at H
    have hW:=beq_iff_eq.mpr c8
    have hX:=bne_eq_false_iff_eq.mpr c8
    clear c8
    by_cases c9:b7=0
    ·rw[if_pos c9]at H
     have hY:=beq_iff_eq.mpr c9
     have hZ:=bne_eq_false_iff_eq.mpr c9
     clear c9
     obtain⟨bR,b9,H⟩:=Option.bind_eq_some_iff.mp H
     try dsimp only at H
     have c0:=am b9
     clear b9
     by_cases c1:bR=true
     ·subst c1
      have H1:(if b0=0 then(if b1=3 then(if b3=20 then((note_Check.f k 0 0 0 ([]:List (S46)) (⟨#[]⟩:ByteArray) 0).bind fun bD=> (some (bD==130)))else(none))else(none))else(none))=some r:=by rw[if_pos rfl]at H;exact H
      clear H
      have H:=H1
      clear H1
      by_cases cA:b0=0
      ·rw[if_pos cA]at H
       have g6:=beq_iff_eq.mpr cA
       have g7:=bne_eq_false_iff_eq.mpr cA
       clear cA
       by_cases cB:b1=3
       ·rw[if_pos cB]at H
        have g8:=beq_iff_eq.mpr cB
        have g9:=bne_eq_false_iff_eq.mpr cB
        clear cB
        by_cases cC:b3=20
        ·rw[if_pos cC]at H
         have hA:=beq_iff_eq.mpr cC
         have hB:=bne_eq_false_iff_eq.mpr cC
         clear cC
         obtain⟨bD,cD,H⟩:=Option.bind_eq_some_iff.mp H
         try dsimp only at H
         have h0:=am cD
         clear cD
         obtain rfl:=Option.some.inj H
         go_enter Tryz.func6,Tryz.ntmps6
         go_wp2_with (first|((with_reducible refine gate_dst (N:=14) rfl ?_);refine Kd.R_lit k46 _ 46 ?hg (N:=14) ?hd (xs:=([(⟨2,3⟩:S46)]:List (S46))) (inner:=[i6 2,i6 3]) (ok:=fun _=> True) (okp:=fun _=> True) ?hr ?hp (fun _ hk=> hk) trivial (Below.refl _ _) (Nat.le_refl _) (by simp) ?_;(case hd=> rfl);(case hg=> rfl);(case hr=> (go_simp;done));(case hp=> exact(Reps.c2 (show Kd.M k46 _ _ _ (⟨2,3⟩:S46) [i6 2,i6 3]from(k46_mkM _ _ _ (⟨2,3⟩:S46))) (Reps.none _ _)));intro v281 h1 ho17 hb hg_ hnew_;clear hg_ hnew_;(rw[← Ny280.out]at ho17);have aB:=am (Kd.R_lower ho17 (below_size (HB.out)));replace HB:=am (below_step (HB.out) hb);clear hb ho17;obtain⟨aM,aH,eo18⟩:=Kd.R_slice aB.out;subst eo18)|((with_reducible refine gate_dst (N:=1) rfl ?_);refine box_event ?hg (N:=1) ?hd (cs:=#[i6 0,i6 0,i6 0,.slice none 0 0,.string (⟨#[]⟩:ByteArray),i6 0]) (t:=26) ?hr ?_;(case hd=> rfl);(case hg=> rfl);(case hr=> (go_simp;done));intro aJ hg h2 hbox hb;replace aB:=am (Kd.R_below (by exact aB.out) hb);have aA:=am (hbox);have hC:=am (gsz hg HB.out);have bX:=am (gsz hg HB.out);replace HB:=am (below_step (HB.out) hb);clear hb hbox hg;obtain⟨dA,dB,dC,dD,dE,dF⟩:=bc6 aA.out;obtain⟨dG,dH,dI,dJ,dK,dL⟩:=bf6 aA.out)|((with_reducible refine gate_callee (f:=14) rfl ?_);refine goesL_ (some 19) rfl rfl Tryz.func14 (by kernel_rfl) rfl #[.agg #[i6 1,i6 0,i6 7,.slice aM aE.length aH,.string (⟨#[104,111,116,101,108]⟩:ByteArray),i6 0]] rfl (by(try simp only[l_m,l_c,l_n]);rfl) ?_;(with_reducible refine(note_Show.calls k 1 0 7 _ _ aE (⟨#[104,111,116,101,108]⟩:ByteArray) 0 b4 b5 _ ?side1 ?side2 ?side3 A1.out).mono ?_);(case side1=> refine(Kd.R_reads' (e:=46) (base:=w.heap.size) (ok:=fun k_=> True) (n:=aE.length) (c:=aH) ?_).2.2;exact(by exact(Kd.R_mono (rf (rf (rf (rf (rf (rf (Kd.R_types aB.out aA.out (by decide)))))))) (fun _ h_=> h_.1))));(case side2=> exact(Kd.R_reads' aB.out).2.1);(case side3=> exact WH.below HWH_.out (bs6 HB.out bX.out));rintro e h3 ⟨rfl,hb⟩;refine⟨_,rfl,?_⟩;replace aB:=am (Kd.R_below (by exact(Kd.R_mono (rf (rf (rf (rf (rf (rf (Kd.R_types aB.out aA.out (by decide)))))))) (fun _ h_=> h_.1))) hb);replace aA:=am (blk_below (g:=aJ) (o:=.cells #[i6 1,i6 0,i6 7,.slice aM aE.length aH,.string (⟨#[104,111,116,101,108]⟩:ByteArray),i6 0] 26 (0,0)) (by refine blk_put (cs:=#[i6 1,i6 0,i6 7,.slice aM aE.length aH,.string (⟨#[104,111,116,101,108]⟩:ByteArray),i6 0]) ?_ 5 _ rfl;exact bp (bp (bp (bp (bp aA.out 0) 1) 2) 3) 4) hb);replace HB:=am (below_step (bs6 HB.out bX.out) hb);clear hb;obtain⟨dM,dN,dO,dP,dQ,dR⟩:=bc6 aA.out;obtain⟨dS,dT,dU,dV,dW,dX⟩:=bf6 aA.out)|((with_reducible refine gate_dst (N:=4) rfl ?_);refine box_event ?hg (N:=4) ?hd (cs:=#[i6 0,i6 0,i6 0,i6 0,i6 0,i6 0,i6 0,i6 0,i6 0,.slice none 0 0,.string (⟨#[]⟩:ByteArray),i6 0]) (t:=28) ?hr ?_;(case hd=> rfl);(case hg=> rfl);(case hr=> (go_simp;done));intro aN hg h4 hbox hb;replace aB:=am (Kd.R_below (by exact aB.out) hb);have aD:=am (hbox);have hD:=am (gsz hg HB.out);have bY:=am (gsz hg HB.out);replace HB:=am (below_step (HB.out) hb);have aZ:=am ((by rw[hg];exact Nat.ne_of_lt (blk_lt aA.out):aJ≠aN));have bJ:=am ((by rw[hg];exact Nat.ne_of_gt (blk_lt aA.out):aN≠aJ));replace aA:=am (blk_below aA.out hb);clear hb hbox hg;have hE:=bJ.out;have hF:=aZ.out;obtain⟨dY,dZ,d0,d1,d2,d3,d4,d5,d6,d7,cE,cF⟩:=bc12 aD.out;obtain⟨d8,d9,eA,eB,eC,eD,eE,eF,eG,eH,cG,cH⟩:=bf12 aD.out)|((with_reducible refine gate_callee (f:=7) rfl ?_);refine goesL_ (some 26) rfl rfl Tryz.func7 (by kernel_rfl) rfl #[.agg #[i6 0,i6 3,i6 1,i6 4,i6 0,i6 0,i6 1,i6 0,i6 7,.slice aM aE.length aH,.string (⟨#[104,111,116,101,108]⟩:ByteArray),i6 0]] rfl (by(try simp only[l_m,l_c,l_n]);rfl) ?_;(with_reducible refine(note_Encode.calls k 0 3 1 4 0 0 1 0 7 _ _ aE (⟨#[104,111,116,101,108]⟩:ByteArray) 0 bZ b6 _ ?side1 ?side2 ?side3 A2.out).mono ?_);(case side1=> refine(Kd.R_reads' (e:=46) (base:=w.heap.size) (ok:=fun k_=> True) (n:=aE.length) (c:=aH) ?_).2.2;exact(by exact(Kd.R_mono (rf (rf (rf (rf (rf (rf (rf (rf (rf (rf (rf (rf (Kd.R_types aB.out aD.out (by decide)))))))))))))) (fun _ h_=> h_.1))));(case side2=> exact(Kd.R_reads' aB.out).2.1);(case side3=> exact WH.below HWH_.out (bs12 HB.out bY.out));rintro e h5 ⟨rfl,hb⟩;refine⟨_,rfl,?_⟩;replace aB:=am (Kd.R_below (by exact(Kd.R_mono (rf (rf (rf (rf (rf (rf (rf (rf (rf (rf (rf (rf (Kd.R_types aB.out aD.out (by decide)))))))))))))) (fun _ h_=> h_.1))) hb);replace aA:=am (blk_below (g:=aJ) (o:=.cells #[i6 1,i6 0,i6 7,.slice aM aE.length aH,.string (⟨#[104,111,116,101,108]⟩:ByteArray),i6 0] 26 (0,0)) (by(iterate 12 refine blk_far ?_ aZ.out _);exact aA.out) hb);replace aD:=am (blk_below (g:=aN) (o:=.cells #[i6 0,i6 3,i6 1,i6 4,i6 0,i6 0,i6 1,i6 0,i6 7,.slice aM aE.length aH,.string (⟨#[104,111,116,101,108]⟩:ByteArray),i6 0] 28 (0,0)) (by refine blk_put (cs:=#[i6 0,i6 3,i6 1,i6 4,i6 0,i6 0,i6 1,i6 0,i6 7,.slice aM aE.length aH,.string (⟨#[104,111,116,101,108]⟩:ByteArray),i6 0]) ?_ 11 _ rfl;refine blk_put (cs:=#[i6 0,i6 3,i6 1,i6 4,i6 0,i6 0,i6 1,i6 0,i6 7,.slice aM aE.length aH,.string (⟨#[]⟩:ByteArray),i6 0]) ?_ 10 _ rfl;refine blk_put (cs:=#[i6 0,i6 3,i6 1,i6 4,i6 0,i6 0,i6 1,i6 0,i6 7,.slice none 0 0,.string (⟨#[]⟩:ByteArray),i6 0]) ?_ 9 _ rfl;refine blk_put (cs:=#[i6 0,i6 3,i6 1,i6 4,i6 0,i6 0,i6 1,i6 0,i6 0,.slice none 0 0,.string (⟨#[]⟩:ByteArray),i6 0]) ?_ 8 _ rfl;refine blk_put (cs:=#[i6 0,i6 3,i6 1,i6 4,i6 0,i6 0,i6 1,i6 0,i6 0,.slice none 0 0,.string (⟨#[]⟩:ByteArray),i6 0]) ?_ 7 _ rfl;refine blk_put (cs:=#[i6 0,i6 3,i6 1,i6 4,i6 0,i6 0,i6 0,i6 0,i6 0,.slice none 0 0,.string (⟨#[]⟩:ByteArray),i6 0]) ?_ 6 _ rfl;refine blk_put (cs:=#[i6 0,i6 3,i6 1,i6 4,i6 0,i6 0,i6 0,i6 0,i6 0,.slice none 0 0,.string (⟨#[]⟩:ByteArray),i6 0]) ?_ 5 _ rfl;refine blk_put (cs:=#[i6 0,i6 3,i6 1,i6 4,i6 0,i6 0,i6 0,i6 0,i6 0,.slice none 0 0,.string (⟨#[]⟩:ByteArray),i6 0]) ?_ 4 _ rfl;refine blk_put (cs:=#[i6 0,i6 3,i6 1,i6 0,i6 0,i6 0,i6 0,i6 0,i6 0,.slice none 0 0,.string (⟨#[]⟩:ByteArray),i6 0]) ?_ 3 _ rfl;refine blk_put (cs:=#[i6 0,i6 3,i6 0,i6 0,i6 0,i6 0,i6 0,i6 0,i6 0,.slice none 0 0,.string (⟨#[]⟩:ByteArray),i6 0]) ?_ 2 _ rfl;refine blk_put (cs:=#[i6 0,i6 0,i6 0,i6 0,i6 0,i6 0,i6 0,i6 0,i6 0,.slice none 0 0,.string (⟨#[]⟩:ByteArray),i6 0]) ?_ 1 _ rfl;refine blk_put (cs:=#[i6 0,i6 0,i6 0,i6 0,i6 0,i6 0,i6 0,i6 0,i6 0,.slice none 0 0,.string (⟨#[]⟩:ByteArray),i6 0]) ?_ 0 _ rfl;exact aD.out) hb);replace HB:=am (below_step (bs12 HB.out bY.out) hb);clear hb)|((with_reducible refine gate_callee (f:=11) rfl ?_);refine goesL_ (some 31) rfl rfl Tryz.func11 (by kernel_rfl) rfl #[.string bZ] rfl (by(try simp only[l_m,l_c,l_n]);rfl) ?_;(with_reducible refine(note_Decode.calls k bZ aK aL aO aR aT aX a5 bB bE a6 bS bW b7 _ ?side1 A3.out).mono ?_);(case side1=> exact WH.below HWH_.out (HB.out));rintro e h6 ⟨v299,rfl,ho0,hb⟩;refine⟨_,rfl,?_⟩;have aG:=am (Kd.R_lower (Kd.R_new' ho0 (Kd.R_lt (by exact aB.out))) (below_size (HB.out)));replace aB:=am (Kd.R_elder' (by exact aB.out) (Kd.R_base ho0) hb);replace aA:=am (blk_below aA.out hb);replace aD:=am (blk_below aD.out hb);replace HB:=am (below_step (HB.out) hb);clear hb ho0)|((with_reducible refine gate_dst (N:=7) rfl ?_);refine box_event ?hg (N:=7) ?hd (cs:=#[i6 0,i6 0,i6 0,i6 0,i6 0,i6 0,i6 0,i6 0,i6 0,.slice none 0 0,.string (⟨#[]⟩:ByteArray),i6 0]) (t:=28) ?hr ?_;(case hd=> rfl);(case hg=> rfl);(case hr=> (go_simp;done));intro aQ hg h7 hbox hb;replace aB:=am (Kd.R_below (by exact aB.out) hb);replace aG:=am (Kd.R_below (by exact aG.out) hb);have aF:=am (hbox);have hG:=am (gsz hg HB.out);have cI:=am (gsz hg HB.out);replace HB:=am (below_step (HB.out) hb);have a0:=am ((by rw[hg];exact Nat.ne_of_lt (blk_lt aA.out):aJ≠aQ));have bK:=am ((by rw[hg];exact Nat.ne_of_gt (blk_lt aA.out):aQ≠aJ));replace aA:=am (blk_below aA.out hb);have a1:=am ((by rw[hg];exact Nat.ne_of_lt (blk_lt aD.out):aN≠aQ));have bL:=am ((by rw[hg];exact Nat.ne_of_gt (blk_lt aD.out):aQ≠aN));replace aD:=am (blk_below aD.out hb);clear hb hbox hg;have hH:=bK.out;have hI:=a0.out;have hJ:=bL.out;have hK:=a1.out;obtain⟨eI,eJ,eK,eL,eM,eN,eO,eP,eQ,eR,cJ,cK⟩:=bc12 aF.out;obtain⟨eS,eT,eU,eV,eW,eX,eY,eZ,e0,e1,cL,cM⟩:=bf12 aF.out;obtain⟨bM,bG,eo32⟩:=Kd.R_slice aG.out;subst eo32;obtain⟨e2,e3,e4,e5,e6,e7⟩:=bc6 aA.out;obtain⟨e8,e9,fA,fB,fC,fD⟩:=bf6 aA.out)|((with_reducible refine gate_callee (f:=15) rfl ?_);refine goesL_ (some 36) rfl rfl Tryz.func15 (by kernel_rfl) rfl #[.agg #[i6 1,i6 0,i6 7,.slice aM aE.length aH,.string (⟨#[104,111,116,101,108]⟩:ByteArray),i6 0]] rfl (by(try simp only[l_m,l_c,l_n]);rfl) ?_;(with_reducible refine(note_Ends.calls k 1 0 7 _ _ aE (⟨#[104,111,116,101,108]⟩:ByteArray) 0 b0 b1 _ ?side1 ?side2 A4.out).mono ?_);(case side1=> refine(Kd.R_reads' (e:=46) (base:=w.heap.size) (ok:=fun k_=> (True∧some k_≠(.slice bM a6.length bG:Value).ownBlock)) (n:=aE.length) (c:=aH) ?_).2.2;exact(by exact(Kd.R_mono (rf (rf (rf (rf (rf (rf (rf (rf (rf (rf (rf (rf (Kd.R_types aB.out aF.out (by decide)))))))))))))) (fun _ h_=> h_.1))));(case side2=> exact(Kd.R_reads' aB.out).2.1);rintro e h8 ⟨rfl,hb⟩;refine⟨_,rfl,?_⟩;replace aB:=am (Kd.R_below (by exact(Kd.R_mono (rf (rf (rf (rf (rf (rf (rf (rf (rf (rf (rf (rf (Kd.R_types aB.out aF.out (by decide)))))))))))))) (fun _ h_=> h_.1))) hb);replace aG:=am (Kd.R_below (by exact(Kd.R_mono (rf (rf (rf (rf (rf (rf (rf (rf (rf (rf (rf (rf (Kd.R_types aG.out aF.out (by decide)))))))))))))) (fun _ h_=> h_.1))) hb);replace aA:=am (blk_below (g:=aJ) (o:=.cells #[i6 1,i6 0,i6 7,.slice aM aE.length aH,.string (⟨#[104,111,116,101,108]⟩:ByteArray),i6 0] 26 (0,0)) (by(iterate 12 refine blk_far ?_ a0.out _);exact aA.out) hb);replace aD:=am (blk_below (g:=aN) (o:=.cells #[i6 0,i6 3,i6 1,i6 4,i6 0,i6 0,i6 1,i6 0,i6 7,.slice aM aE.length aH,.string (⟨#[104,111,116,101,108]⟩:ByteArray),i6 0] 28 (0,0)) (by(iterate 12 refine blk_far ?_ a1.out _);exact aD.out) hb);replace aF:=am (blk_below (g:=aQ) (o:=.cells #[i6 aK,i6 aL,i6 aO,i6 aR,i6 aT,i6 aX,i6 a5,i6 bB,i6 bE,.slice bM a6.length bG,.string bS,i6 bW] 28 (0,0)) (by refine blk_put (cs:=#[i6 aK,i6 aL,i6 aO,i6 aR,i6 aT,i6 aX,i6 a5,i6 bB,i6 bE,.slice bM a6.length bG,.string bS,i6 0]) ?_ 11 _ rfl;refine blk_put (cs:=#[i6 aK,i6 aL,i6 aO,i6 aR,i6 aT,i6 aX,i6 a5,i6 bB,i6 bE,.slice bM a6.length bG,.string (⟨#[]⟩:ByteArray),i6 0]) ?_ 10 _ rfl;refine blk_put (cs:=#[i6 aK,i6 aL,i6 aO,i6 aR,i6 aT,i6 aX,i6 a5,i6 bB,i6 bE,.slice none 0 0,.string (⟨#[]⟩:ByteArray),i6 0]) ?_ 9 _ rfl;refine blk_put (cs:=#[i6 aK,i6 aL,i6 aO,i6 aR,i6 aT,i6 aX,i6 a5,i6 bB,i6 0,.slice none 0 0,.string (⟨#[]⟩:ByteArray),i6 0]) ?_ 8 _ rfl;refine blk_put (cs:=#[i6 aK,i6 aL,i6 aO,i6 aR,i6 aT,i6 aX,i6 a5,i6 0,i6 0,.slice none 0 0,.string (⟨#[]⟩:ByteArray),i6 0]) ?_ 7 _ rfl;refine blk_put (cs:=#[i6 aK,i6 aL,i6 aO,i6 aR,i6 aT,i6 aX,i6 0,i6 0,i6 0,.slice none 0 0,.string (⟨#[]⟩:ByteArray),i6 0]) ?_ 6 _ rfl;refine blk_put (cs:=#[i6 aK,i6 aL,i6 aO,i6 aR,i6 aT,i6 0,i6 0,i6 0,i6 0,.slice none 0 0,.string (⟨#[]⟩:ByteArray),i6 0]) ?_ 5 _ rfl;refine blk_put (cs:=#[i6 aK,i6 aL,i6 aO,i6 aR,i6 0,i6 0,i6 0,i6 0,i6 0,.slice none 0 0,.string (⟨#[]⟩:ByteArray),i6 0]) ?_ 4 _ rfl;refine blk_put (cs:=#[i6 aK,i6 aL,i6 aO,i6 0,i6 0,i6 0,i6 0,i6 0,i6 0,.slice none 0 0,.string (⟨#[]⟩:ByteArray),i6 0]) ?_ 3 _ rfl;refine blk_put (cs:=#[i6 aK,i6 aL,i6 0,i6 0,i6 0,i6 0,i6 0,i6 0,i6 0,.slice none 0 0,.string (⟨#[]⟩:ByteArray),i6 0]) ?_ 2 _ rfl;refine blk_put (cs:=#[i6 aK,i6 0,i6 0,i6 0,i6 0,i6 0,i6 0,i6 0,i6 0,.slice none 0 0,.string (⟨#[]⟩:ByteArray),i6 0]) ?_ 1 _ rfl;refine blk_put (cs:=#[i6 0,i6 0,i6 0,i6 0,i6 0,i6 0,i6 0,i6 0,i6 0,.slice none 0 0,.string (⟨#[]⟩:ByteArray),i6 0]) ?_ 0 _ rfl;exact aF.out) hb);replace HB:=am (below_step (bs12 HB.out cI.out) hb);clear hb)|((with_reducible refine gate_callee (f:=11) rfl ?_);refine goesL_ (some 40) rfl rfl Tryz.func11 (by kernel_rfl) rfl #[.string (⟨#[120]⟩:ByteArray)] rfl (by(try simp only[l_m,l_c,l_n]);rfl) ?_;(with_reducible refine(note_Decode.calls k (⟨#[120]⟩:ByteArray) aP aS aU aY a7 bC bF bH bT bI b2 b8 b3 _ ?side1 A5.out).mono ?_);(case side1=> exact WH.below HWH_.out (HB.out));rintro e h9 ⟨v317,rfl,ho0,hb⟩;refine⟨_,rfl,?_⟩;have aV:=am (Kd.R_lower (Kd.R_new' (Kd.R_new' ho0 (Kd.R_lt (by exact aB.out))) (Kd.R_lt (by exact aG.out))) (below_size (HB.out)));replace aB:=am (Kd.R_elder' (by exact aB.out) (Kd.R_base ho0) hb);replace aG:=am (Kd.R_elder' (by exact aG.out) (Kd.R_base ho0) hb);replace aA:=am (blk_below aA.out hb);replace aD:=am (blk_below aD.out hb);replace aF:=am (blk_below aF.out hb);replace HB:=am (below_step (HB.out) hb);clear hb ho0)|((with_reducible refine gate_dst (N:=11) rfl ?_);refine box_event ?hg (N:=11) ?hd (cs:=#[i6 0,i6 0,i6 0,i6 0,i6 0,i6 0,i6 0,i6 0,i6 0,.slice none 0 0,.string (⟨#[]⟩:ByteArray),i6 0]) (t:=28) ?hr ?_;(case hd=> rfl);(case hg=> rfl);(case hr=> (go_simp;done));intro aW hg iA hbox hb;replace aB:=am (Kd.R_below (by exact aB.out) hb);replace aG:=am (Kd.R_below (by exact aG.out) hb);replace aV:=am (Kd.R_below (by exact aV.out) hb);have aI:=am (hbox);have hL:=am (gsz hg HB.out);have cN:=am (gsz hg HB.out);replace HB:=am (below_step (HB.out) hb);have a2:=am ((by rw[hg];exact Nat.ne_of_lt (blk_lt aA.out):aJ≠aW));have bN:=am ((by rw[hg];exact Nat.ne_of_gt (blk_lt aA.out):aW≠aJ));replace aA:=am (blk_below aA.out hb);have a3:=am ((by rw[hg];exact Nat.ne_of_lt (blk_lt aD.out):aN≠aW));have bO:=am ((by rw[hg];exact Nat.ne_of_gt (blk_lt aD.out):aW≠aN));replace aD:=am (blk_below aD.out hb);have a4:=am ((by rw[hg];exact Nat.ne_of_lt (blk_lt aF.out):aQ≠aW));have bP:=am ((by rw[hg];exact Nat.ne_of_gt (blk_lt aF.out):aW≠aQ));replace aF:=am (blk_below aF.out hb);clear hb hbox hg;have hM:=bN.out;have hN:=a2.out;have hO:=bO.out;have hP:=a3.out;have hQ:=bP.out;have hR:=a4.out;obtain⟨fE,fF,fG,fH,fI,fJ,fK,fL,fM,fN,cO,cP⟩:=bc12 aI.out;obtain⟨fO,fP,fQ,fR,fS,fT,fU,fV,fW,fX,cQ,cR⟩:=bf12 aI.out;obtain⟨bU,bV,eo41⟩:=Kd.R_slice aV.out;subst eo41;obtain⟨fY,fZ,f0,f1,f2,f3,f4,f5,f6,f7,cS,cT⟩:=bc12 aF.out;obtain⟨f8,f9,gA,gB,gC,gD,gE,gF,gG,gH,cU,cV⟩:=bf12 aF.out;obtain⟨gI,gJ,gK,gL,gM,gN,gO,gP,gQ,gR,cW,cX⟩:=bc12 aD.out;obtain⟨gS,gT,gU,gV,gW,gX,gY,gZ,g0,g1,cY,cZ⟩:=bf12 aD.out)|(go_at_call 13;(with_reducible refine(ententeref13_Same.calls k aK aL aO aR aT aX a5 bB bE _ _ a6 bS bW 0 3 1 4 0 0 1 0 7 _ _ aE (⟨#[104,111,116,101,108]⟩:ByteArray) 0 true _ ?side1 ?side2 ?side3 ?side4 c0.out).mono ?_);(case side1=> refine(Kd.R_reads' (e:=46) (base:=w.heap.size) (ok:=fun k_=> ((True∧some k_≠(.slice aM aE.length aH:Value).ownBlock)∧some k_≠(.slice bU bI.length bV:Value).ownBlock)) (n:=a6.length) (c:=bG) ?_).2.2;exact(by exact(Kd.R_mono (rf (rf (rf (rf (rf (rf (rf (rf (rf (rf (rf (rf (Kd.R_types aG.out aI.out (by decide)))))))))))))) (fun _ h_=> h_.1))));(case side2=> exact(Kd.R_reads' aG.out).2.1);(case side3=> refine(Kd.R_reads' (e:=46) (base:=w.heap.size) (ok:=fun k_=> ((True∧some k_≠(.slice bM a6.length bG:Value).ownBlock)∧some k_≠(.slice bU bI.length bV:Value).ownBlock)) (n:=aE.length) (c:=aH) ?_).2.2;exact(by exact(Kd.R_mono (rf (rf (rf (rf (rf (rf (rf (rf (rf (rf (rf (rf (Kd.R_types aB.out aI.out (by decide)))))))))))))) (fun _ h_=> h_.1))));(case side4=> exact(Kd.R_reads' aB.out).2.1);rintro e iB ⟨rfl,hb⟩;replace aB:=am (Kd.R_below (by exact(Kd.R_mono (rf (rf (rf (rf (rf (rf (rf (rf (rf (rf (rf (rf (Kd.R_types aB.out aI.out (by decide)))))))))))))) (fun _ h_=> h_.1))) hb);replace aG:=am (Kd.R_below (by exact(Kd.R_mono (rf (rf (rf (rf (rf (rf (rf (rf (rf (rf (rf (rf (Kd.R_types aG.out aI.out (by decide)))))))))))))) (fun _ h_=> h_.1))) hb);replace aV:=am (Kd.R_below (by exact(Kd.R_mono (rf (rf (rf (rf (rf (rf (rf (rf (rf (rf (rf (rf (Kd.R_types aV.out aI.out (by decide)))))))))))))) (fun _ h_=> h_.1))) hb);replace aA:=am (blk_below (g:=aJ) (o:=.cells #[i6 1,i6 0,i6 7,.slice aM aE.length aH,.string (⟨#[104,111,116,101,108]⟩:ByteArray),i6 0] 26 (0,0)) (by(iterate 12 refine blk_far ?_ a2.out _);exact aA.out) hb);replace aD:=am (blk_below (g:=aN) (o:=.cells #[i6 0,i6 3,i6 1,i6 4,i6 0,i6 0,i6 1,i6 0,i6 7,.slice aM aE.length aH,.string (⟨#[104,111,116,101,108]⟩:ByteArray),i6 0] 28 (0,0)) (by(iterate 12 refine blk_far ?_ a3.out _);exact aD.out) hb);replace aF:=am (blk_below (g:=aQ) (o:=.cells #[i6 aK,i6 aL,i6 aO,i6 aR,i6 aT,i6 aX,i6 a5,i6 bB,i6 bE,.slice bM a6.length bG,.string bS,i6 bW] 28 (0,0)) (by(iterate 12 refine blk_far ?_ a4.out _);exact aF.out) hb);replace aI:=am (blk_below (g:=aW) (o:=.cells #[i6 aP,i6 aS,i6 aU,i6 aY,i6 a7,i6 bC,i6 bF,i6 bH,i6 bT,.slice bU bI.length bV,.string b2,i6 b8] 28 (0,0)) (by refine blk_put (cs:=#[i6 aP,i6 aS,i6 aU,i6 aY,i6 a7,i6 bC,i6 bF,i6 bH,i6 bT,.slice bU bI.length bV,.string b2,i6 0]) ?_ 11 _ rfl;refine blk_put (cs:=#[i6 aP,i6 aS,i6 aU,i6 aY,i6 a7,i6 bC,i6 bF,i6 bH,i6 bT,.slice bU bI.length bV,.string (⟨#[]⟩:ByteArray),i6 0]) ?_ 10 _ rfl;refine blk_put (cs:=#[i6 aP,i6 aS,i6 aU,i6 aY,i6 a7,i6 bC,i6 bF,i6 bH,i6 bT,.slice none 0 0,.string (⟨#[]⟩:ByteArray),i6 0]) ?_ 9 _ rfl;refine blk_put (cs:=#[i6 aP,i6 aS,i6 aU,i6 aY,i6 a7,i6 bC,i6 bF,i6 bH,i6 0,.slice none 0 0,.string (⟨#[]⟩:ByteArray),i6 0]) ?_ 8 _ rfl;refine blk_put (cs:=#[i6 aP,i6 aS,i6 aU,i6 aY,i6 a7,i6 bC,i6 bF,i6 0,i6 0,.slice none 0 0,.string (⟨#[]⟩:ByteArray),i6 0]) ?_ 7 _ rfl;refine blk_put (cs:=#[i6 aP,i6 aS,i6 aU,i6 aY,i6 a7,i6 bC,i6 0,i6 0,i6 0,.slice none 0 0,.string (⟨#[]⟩:ByteArray),i6 0]) ?_ 6 _ rfl;refine blk_put (cs:=#[i6 aP,i6 aS,i6 aU,i6 aY,i6 a7,i6 0,i6 0,i6 0,i6 0,.slice none 0 0,.string (⟨#[]⟩:ByteArray),i6 0]) ?_ 5 _ rfl;refine blk_put (cs:=#[i6 aP,i6 aS,i6 aU,i6 aY,i6 0,i6 0,i6 0,i6 0,i6 0,.slice none 0 0,.string (⟨#[]⟩:ByteArray),i6 0]) ?_ 4 _ rfl;refine blk_put (cs:=#[i6 aP,i6 aS,i6 aU,i6 0,i6 0,i6 0,i6 0,i6 0,i6 0,.slice none 0 0,.string (⟨#[]⟩:ByteArray),i6 0]) ?_ 3 _ rfl;refine blk_put (cs:=#[i6 aP,i6 aS,i6 0,i6 0,i6 0,i6 0,i6 0,i6 0,i6 0,.slice none 0 0,.string (⟨#[]⟩:ByteArray),i6 0]) ?_ 2 _ rfl;refine blk_put (cs:=#[i6 aP,i6 0,i6 0,i6 0,i6 0,i6 0,i6 0,i6 0,i6 0,.slice none 0 0,.string (⟨#[]⟩:ByteArray),i6 0]) ?_ 1 _ rfl;refine blk_put (cs:=#[i6 0,i6 0,i6 0,i6 0,i6 0,i6 0,i6 0,i6 0,i6 0,.slice none 0 0,.string (⟨#[]⟩:ByteArray),i6 0]) ?_ 0 _ rfl;exact aI.out) hb);replace HB:=am (below_step (bs12 HB.out cN.out) hb);clear hb)|(go_at_call 16;(refine(note_Check.calls k 0 0 0 _ _ ([]:List (S46)) (⟨#[]⟩:ByteArray) 0 bD _ ?side1 ?side2 h0.out).mono ?_);(case side1=> exact Kd.C_nil _ _);(case side2=> exact Nat.le_refl _);rintro e iC ⟨rfl,hb⟩;replace aB:=am (Kd.R_below (by exact aB.out) hb);replace aG:=am (Kd.R_below (by exact aG.out) hb);replace aV:=am (Kd.R_below (by exact aV.out) hb);replace aA:=am (blk_below aA.out hb);replace aD:=am (blk_below aD.out hb);replace aF:=am (blk_below aF.out hb);replace aI:=am (blk_below aI.out hb);replace HB:=am (below_step (HB.out) hb);clear hb))
         go_ret
         exact⟨by rfl,HB.out⟩
        ·rw[if_neg cC]at H
         exact absurd H (by simp)
       ·rw[if_neg cB]at H
        exact absurd H (by simp)
      ·rw[if_neg cA]at H
       exact absurd H (by simp)
     ·replace c1:=Bool.eq_false_iff.mpr c1
      subst c1
      have H1:(none)=some r:=by rw[if_neg (show ¬ (false=true)by decide)]at H;exact H
      clear H
      have H:=H1
      clear H1
      exact absurd H (by simp)
    ·rw[if_neg c9]at H
     exact absurd H (by simp)
   ·rw[if_neg c8]at H
    exact absurd H (by simp)
  ·rw[if_neg c7]at H
   exact absurd H (by simp)
 ·rw[if_neg c6]at H
  exact absurd H (by simp)

/-! ### ententeref03_Check: function 45 -/
mutual
def ententeref03_Check.j0:Nat→Bool→Int→Int→List (S46)→Option (Int)
 |0,_,_,_,_=> none
 |k+1,fK,aF,aH,aA=> if fK=true then(some 30)else(ententeref03_Check.l0 k 0 aF aH aA)
def ententeref03_Check.l0:Nat→Int→Int→Int→List (S46)→Option (Int)
 |0,_,_,_,_=> none
 |k+1,x3,aF,aH,aA=> if x3< (aA.length:Int)then(if 0≤x3 then(if((rd_T46 aA x3).f0)< 0 then(ententeref03_Check.j2 k x3 true aF aH aA ((rd_T46 aA x3).f0) ((rd_T46 aA x3).f1))else(if((rd_T46 aA x3).f0)> 7 then(ententeref03_Check.j2 k x3 true aF aH aA ((rd_T46 aA x3).f0) ((rd_T46 aA x3).f1))else(if((rd_T46 aA x3).f1)< 0 then(ententeref03_Check.j2 k x3 true aF aH aA ((rd_T46 aA x3).f0) ((rd_T46 aA x3).f1))else(if((rd_T46 aA x3).f1)> 15 then(ententeref03_Check.j2 k x3 true aF aH aA ((rd_T46 aA x3).f0) ((rd_T46 aA x3).f1))else(ententeref03_Check.j2 k x3 (((rd_T46 aA x3).f1)==aF) aF aH aA ((rd_T46 aA x3).f0) ((rd_T46 aA x3).f1))))))else(none))else(some 0)
def ententeref03_Check.j2:Nat→Int→Bool→Int→Int→List (S46)→Int→Int→Option (Int)
 |0,_,_,_,_,_,_,_=> none
 |k+1,x3,fL,aF,aH,aA,aT,aP=> if fL=true then(some 30)else(ententeref03_Check.l1 k x3 0 aF aH aA aT aP)
def ententeref03_Check.l1:Nat→Int→Int→Int→Int→List (S46)→Int→Int→Option (Int)
 |0,_,_,_,_,_,_,_=> none
 |k+1,x3,x5,aF,aH,aA,aT,aP=> if x5< x3 then(if 0≤x5 then(if x5< (aA.length:Int)then(if((rd_T46 aA x5).f1)=aP then(some 30)else(ententeref03_Check.l1 k x3 (wrap64 (x5+1)) aF aH aA aT aP))else(none))else(none))else(ententeref03_Check.l0 k (wrap64 (x3+1)) aF aH aA)
end
def ententeref03_Check.f (k:Nat) (aK:Int) (aJ:Int) (aD:List (S46)):Option (Int):=if aJ< 1 then(ententeref03_Check.j0 k true aK aJ aD)else(if aJ> 999999 then(ententeref03_Check.j0 k true aK aJ aD)else(if(aD.length:Int)> 4 then(ententeref03_Check.j0 k true aK aJ aD)else(if aK< 0 then(ententeref03_Check.j0 k true aK aJ aD)else(ententeref03_Check.j0 k (decide (aK> 15)) aK aJ aD))))
set_option maxHeartbeats 8000000 in
set_option maxRecDepth 100000 in
theorem ententeref03_Check.calls (k:Nat) (aK:Int) (aJ:Int) (a3:Option Addr) (c0_2:Nat) (aD:List (S46)) (r:Int) (w:World) (bL:Kd.C k46 w a3 aD.length aD) (bM:aD.length≤c0_2) (h:ententeref03_Check.f k aK aJ aD=some r) :
  Calls Tryz.prog 45 #[.agg #[i6 aK,i6 aJ,.slice a3 aD.length c0_2]] w fun e w'=> e=.returned (i6 r)∧Below w.heap.size w w':=by
 have hu24:=Tryz.underlying24
 have hu46:=Tryz.underlying46
 have a4:=am bL
 have eY:=am bM
 clear bL bM
 have HB:=am (Below.refl w.heap.size w)
 unfold ententeref03_Check.f at h
 have H:=h
 clear h
 have HC2:=am H
 clear H
 go_enter Tryz.func45,Tryz.ntmps45
 go_upto_region 1 with(first|((with_reducible refine gate_dst (N:=1) rfl ?_);(try(refine gate_guard (by rfl) ?_;dsimp only));refine box_event ?hg (N:=1) ?hd (cs:=#[i6 aK,i6 aJ,.slice a3 aD.length c0_2]) (t:=24) ?hr ?_;(case hd=> rfl);(case hg=> rfl);(case hr=> (go_simp;done));intro aS hg w3 hbox hb;have aC:=am (hbox);have eZ:=am (gsz hg HB.out);have e0:=am (gsz hg HB.out);replace HB:=am (below_step (HB.out) hb);clear hb hbox hg))
 repeat(go_quiet (fail);go_upto_region 1 with(fail))
 (try simp only[Act.put,l_a,l_z,l_s])
 go_cut [29] (fun v29 wc=> ∃ (kq:Nat) (aX:Bool),v29=.bool aX∧Aside0 (ententeref03_Check.j0 kq aX aK aJ aD=some r)∧Aside0 (kq≤k)∧Aside0 (wc.heap[aS]?=some (.cells #[i6 aK,i6 aJ,(.slice a3 aD.length c0_2)] 24 (0,0)))∧Aside0 (Below w.heap.size w wc))
 case first=>
  have H:=HC2.out
  clear HC2
  by_cases c4:aJ< 1
  ·rw[if_pos c4]at H
   have eB:=decide_eq_true c4
   clear c4
   (skip)
   have H':=am H
   clear H
   obtain⟨eC,eD,eE⟩:=bc3 aC.out
   obtain⟨eF,eG,eH⟩:=bf3 aC.out
   go_wp2
   repeat(go_quiet (fail);try go_wp2)
   go_meet
   case rel=> exact⟨_,(true),(by rfl),H',⟨by omega⟩,⟨by exact aC.out⟩,⟨HB.out⟩⟩
  ·rw[if_neg c4]at H
   have eB:=decide_eq_false c4
   clear c4
   (skip)
   by_cases c6:aJ> 999999
   ·rw[if_pos c6]at H
    have eI:decide (999999< aJ)=true:=decide_eq_true c6
    clear c6
    have H':=am H
    clear H
    obtain⟨eJ,eK,eL⟩:=bc3 aC.out
    obtain⟨eM,eN,eO⟩:=bf3 aC.out
    go_wp2
    repeat(go_quiet (fail);try go_wp2)
    go_meet
    case rel=> exact⟨_,(true),(by rfl),H',⟨by omega⟩,⟨by exact aC.out⟩,⟨HB.out⟩⟩
   ·rw[if_neg c6]at H
    have eI:decide (999999< aJ)=false:=decide_eq_false c6
    clear c6
    by_cases c8:(aD.length:Int)> 4
    ·rw[if_pos c8]at H
     have eP:decide (4< (aD.length:Int))=true:=decide_eq_true c8
     have eQ:decide (4< aD.length)=true:=decide_eq_true (by omega)
     clear c8
     have H':=am H
     clear H
     obtain⟨eR,eS,eT⟩:=bc3 aC.out
     obtain⟨eU,eV,eW⟩:=bf3 aC.out
     go_wp2
     repeat(go_quiet (fail);try go_wp2)
     go_meet
     case rel=> exact⟨_,(true),(by rfl),H',⟨by omega⟩,⟨by exact aC.out⟩,⟨HB.out⟩⟩
    ·rw[if_neg c8]at H
     have eP:decide (4< (aD.length:Int))=false:=decide_eq_false c8
     have eQ:decide (4< aD.length)=false:=decide_eq_false (by omega)
     clear c8
     by_cases c10:aK< 0
     ·rw[if_pos c10]at H
      have bW:=decide_eq_true c10
      clear c10
      have H':=am H
      clear H
      obtain⟨b5,b6,b7⟩:=bc3 aC.out
      obtain⟨b8,b9,cA⟩:=bf3 aC.out
      go_wp2
      repeat(go_quiet (fail);try go_wp2)
      go_meet
      case rel=> exact⟨_,(true),(by rfl),H',⟨by omega⟩,⟨by exact aC.out⟩,⟨HB.out⟩⟩
     ·rw[if_neg c10]at H
      have bW:=decide_eq_false c10
      clear c10
      have H':=am H
      clear H
      obtain⟨cB,cC,cD⟩:=bc3 aC.out
      obtain⟨cE,cF,cG⟩:=bf3 aC.out
      go_wp2
      repeat(go_quiet (fail);try go_wp2)
      go_meet
      case rel=> exact⟨_,(decide (aK> 15)),(by rfl),H',⟨by omega⟩,⟨by exact aC.out⟩,⟨HB.out⟩⟩
 case rest=>
  clear HC2
  obtain⟨kq,aX,rfl,HA,a6,aC,HB⟩:=hcut
  cases kq with
  |zero=> exact absurd HA.out (by simp[ententeref03_Check.j0])
  |succ eX=>
   have H:=HA.out
   clear HA
   simp only[ententeref03_Check.j0]at H
   by_cases cH:aX=true
   ·subst cH
    have H1:(some 30)=some r:=by rw[if_pos rfl]at H;exact H
    clear H
    have H:=H1
    clear H1
    obtain rfl:=Option.some.inj H
    go_wp2
    repeat(go_quiet (fail);try go_wp2)
    go_ret
    exact⟨by rfl,HB.out⟩
   ·replace cH:=Bool.eq_false_iff.mpr cH
    subst cH
    have H1:(ententeref03_Check.l0 eX 0 aK aJ aD)=some r:=by rw[if_neg (show ¬ (false=true)by decide)]at H;exact H
    clear H
    have H:=H1
    clear H1
    have H':=am H
    clear H
    go_wp2
    repeat(go_quiet (fail);try go_wp2)
    go_loopg [3] eX (fun kq v3 w'=> ∃ (aG:Int),v3=i6 aG∧Aside0 (ententeref03_Check.l0 kq aG aK aJ aD=some r)∧Aside0 (kq≤eX)∧Aside0 (w'.heap[aS]?=some (.cells #[i6 aK,i6 aJ,(.slice a3 aD.length c0_2)] 24 (0,0)))∧Aside0 (Below w.heap.size w w'))
    case atStart=> exact⟨(0),(by rfl),H',⟨Nat.le_refl _⟩,⟨by exact aC.out⟩,⟨HB.out⟩⟩
    case round=>
     clear H'
     obtain⟨aG,rfl,HA,a7,aC,HB⟩:=hrel
     cases gk with
     |zero=> exact absurd HA.out (by simp[ententeref03_Check.l0])
     |succ k2=>
      have H:=HA.out
      clear HA
      simp only[ententeref03_Check.l0]at H
      by_cases bQ:aG< (aD.length:Int)
      ·rw[if_pos bQ]at H
       have bN:=decide_eq_true bQ
       clear bQ
       by_cases cI:0≤aG
       ·rw[if_pos cI]at H
        have bX:=decide_eq_true cI
        clear cI
        have HC16:=am H
        clear H
        obtain⟨a8,a9,bA⟩:=bc3 aC.out
        obtain⟨bB,bC,bD⟩:=bf3 aC.out
        have bE:0≤(aG:Int):=of_decide_eq_true (by(with_reducible assumption))
        have bF:aG< (aD.length:Int):=of_decide_eq_true (by(with_reducible assumption))
        obtain⟨aY,e326,aQ,aR⟩:=at_T46 a4.out aG bE bF
        cases e326
        try replace aQ:=(HB.out.cell (World.block_lt_of_cell? w _ aQ)).trans aQ
        try replace aR:=(HB.out.cell (World.block_lt_of_cell? w _ aR)).trans aR
        replace bE:=eq_true bE
        replace bF:=eq_true bF
        go_upto_region 7 with(first|((with_reducible refine gate_dst (N:=4) rfl ?_);(try(refine gate_guard (by rfl) ?_;dsimp only));refine box_event ?hg (N:=4) ?hd (cs:=#[i6 0,i6 0]) (t:=46) ?hr ?_;(case hd=> rfl);(case hg=> rfl);(case hr=> (go_simp;done));intro aZ hg fM hbox hb;have aE:=am (hbox);have e1:=am (gsz hg HB.out);have aN:=am (gsz hg HB.out);replace HB:=am (below_step (HB.out) hb);have aB:=am ((by rw[hg];exact Nat.ne_of_lt (blk_lt aC.out):aS≠aZ));have aI:=am ((by rw[hg];exact Nat.ne_of_gt (blk_lt aC.out):aZ≠aS));replace aC:=am (blk_below aC.out hb);clear hb hbox hg;have e2:=aI.out;have e3:=aB.out;obtain⟨bG,bH⟩:=bc2 aE.out;obtain⟨bI,bJ⟩:=bf2 aE.out))
        repeat(go_quiet (fail);go_upto_region 7 with(fail))
        (try simp only[Act.put,l_a,l_z,l_s])
        go_cut [66] (fun v66 wc=> ∃ (kq:Nat) (aU:Bool),v66=.bool aU∧Aside0 (ententeref03_Check.j2 kq aG aU aK aJ aD ((rd_T46 aD aG).f0) ((rd_T46 aD aG).f1)=some r)∧Aside0 (kq≤k2)∧Aside0 (wc.heap[aS]?=some (.cells #[i6 aK,i6 aJ,(.slice (some aY) aD.length c0_2)] 24 (0,0)))∧Aside0 (wc.heap[aZ]?=some (.cells #[i6 ((rd_T46 aD aG).f0),i6 ((rd_T46 aD aG).f1)] 46 (0,0)))∧Aside0 (Below w.heap.size w wc))
        case first=>
         have H:=HC16.out
         clear HC16
         by_cases bR:((rd_T46 aD aG).f0)< 0
         ·rw[if_pos bR]at H
          have bY:=decide_eq_true bR
          clear bR
          (skip)
          have H':=am H
          clear H
          have e4:=aI.out
          have e5:=aB.out
          obtain⟨cJ,cK⟩:=bc2 aE.out
          obtain⟨cL,cM⟩:=bf2 aE.out
          go_wp2
          repeat(go_quiet (fail);try go_wp2)
          go_meet
          case rel=> exact⟨_,(true),(by rfl),H',⟨by have:=a6.out;have:=a7.out;omega⟩,⟨by refine blk_far ?_ aB.out _;refine blk_far ?_ aB.out _;exact aC.out⟩,⟨by exact bp (bp aE.out 0) 1⟩,⟨below_set (below_set HB.out aN.out) aN.out⟩⟩
         ·rw[if_neg bR]at H
          have bY:=decide_eq_false bR
          clear bR
          (skip)
          by_cases bS:((rd_T46 aD aG).f0)> 7
          ·rw[if_pos bS]at H
           have bZ:decide (7< ((rd_T46 aD aG).f0))=true:=decide_eq_true bS
           clear bS
           have H':=am H
           clear H
           have e6:=aI.out
           have e7:=aB.out
           obtain⟨cN,cO⟩:=bc2 aE.out
           obtain⟨cP,cQ⟩:=bf2 aE.out
           go_wp2
           repeat(go_quiet (fail);try go_wp2)
           go_meet
           case rel=> exact⟨_,(true),(by rfl),H',⟨by have:=a6.out;have:=a7.out;omega⟩,⟨by refine blk_far ?_ aB.out _;refine blk_far ?_ aB.out _;exact aC.out⟩,⟨by exact bp (bp aE.out 0) 1⟩,⟨below_set (below_set HB.out aN.out) aN.out⟩⟩
          ·rw[if_neg bS]at H
           have bZ:decide (7< ((rd_T46 aD aG).f0))=false:=decide_eq_false bS
           clear bS
           by_cases bT:((rd_T46 aD aG).f1)< 0
           ·rw[if_pos bT]at H
            have b0:=decide_eq_true bT
            clear bT
            have H':=am H
            clear H
            have e8:=aI.out
            have e9:=aB.out
            obtain⟨cR,cS⟩:=bc2 aE.out
            obtain⟨cT,cU⟩:=bf2 aE.out
            go_wp2
            repeat(go_quiet (fail);try go_wp2)
            go_meet
            case rel=> exact⟨_,(true),(by rfl),H',⟨by have:=a6.out;have:=a7.out;omega⟩,⟨by refine blk_far ?_ aB.out _;refine blk_far ?_ aB.out _;exact aC.out⟩,⟨by exact bp (bp aE.out 0) 1⟩,⟨below_set (below_set HB.out aN.out) aN.out⟩⟩
           ·rw[if_neg bT]at H
            have b0:=decide_eq_false bT
            clear bT
            by_cases bU:((rd_T46 aD aG).f1)> 15
            ·rw[if_pos bU]at H
             have b1:decide (15< ((rd_T46 aD aG).f1))=true:=decide_eq_true bU
             clear bU
             have H':=am H
             clear H
             have fA:=aI.out
             have fB:=aB.out
             obtain⟨cV,cW⟩:=bc2 aE.out
             obtain⟨cX,cY⟩:=bf2 aE.out
             go_wp2
             repeat(go_quiet (fail);try go_wp2)
             go_meet
             case rel=> exact⟨_,(true),(by rfl),H',⟨by have:=a6.out;have:=a7.out;omega⟩,⟨by refine blk_far ?_ aB.out _;refine blk_far ?_ aB.out _;exact aC.out⟩,⟨by exact bp (bp aE.out 0) 1⟩,⟨below_set (below_set HB.out aN.out) aN.out⟩⟩
            ·rw[if_neg bU]at H
             have b1:decide (15< ((rd_T46 aD aG).f1))=false:=decide_eq_false bU
             clear bU
             have H':=am H
             clear H
             have fC:=aI.out
             have fD:=aB.out
             obtain⟨cZ,c0⟩:=bc2 aE.out
             obtain⟨c1,dA⟩:=bf2 aE.out
             obtain⟨dB,dC,dD⟩:=bc3 aC.out
             obtain⟨dE,dF,dG⟩:=bf3 aC.out
             go_wp2
             repeat(go_quiet (fail);try go_wp2)
             go_meet
             case rel=> exact⟨_,((((rd_T46 aD aG).f1)==aK)),(by rfl),H',⟨by have:=a6.out;have:=a7.out;omega⟩,⟨by refine blk_far ?_ aB.out _;refine blk_far ?_ aB.out _;exact aC.out⟩,⟨by exact bp (bp aE.out 0) 1⟩,⟨below_set (below_set HB.out aN.out) aN.out⟩⟩
        case rest=>
         clear HC16 bN bX a8 a9 bA bG bH bB bC bD bI bJ aQ aR bE bF
         obtain⟨kq,aU,rfl,HA,bK,aC,aE,HB⟩:=hcut
         cases kq with
         |zero=> exact absurd HA.out (by simp[ententeref03_Check.j2])
         |succ bO=>
          have H:=HA.out
          clear HA
          simp only[ententeref03_Check.j2]at H
          by_cases dH:aU=true
          ·subst dH
           have H1:(some 30)=some r:=by rw[if_pos rfl]at H;exact H
           clear H
           have H:=H1
           clear H1
           obtain rfl:=Option.some.inj H
           go_wp2
           repeat(go_quiet (fail);try go_wp2)
           go_ret
           exact⟨by rfl,HB.out⟩
          ·replace dH:=Bool.eq_false_iff.mpr dH
           subst dH
           have H1:(ententeref03_Check.l1 bO aG 0 aK aJ aD ((rd_T46 aD aG).f0) ((rd_T46 aD aG).f1))=some r:=by rw[if_neg (show ¬ (false=true)by decide)]at H;exact H
           clear H
           have H:=H1
           clear H1
           have H':=am H
           clear H
           go_wp2
           repeat(go_quiet (fail);try go_wp2)
           go_loopg [5] bO (fun kq v5 w'=> ∃ (aO:Int),v5=i6 aO∧Aside0 (ententeref03_Check.l1 kq aG aO aK aJ aD ((rd_T46 aD aG).f0) ((rd_T46 aD aG).f1)=some r)∧Aside0 (kq≤bO)∧Aside0 (w'.heap[aS]?=some (.cells #[i6 aK,i6 aJ,(.slice (some aY) aD.length c0_2)] 24 (0,0)))∧Aside0 (w'.heap[aZ]?=some (.cells #[i6 ((rd_T46 aD aG).f0),i6 ((rd_T46 aD aG).f1)] 46 (0,0)))∧Aside0 (Below w.heap.size w w'))
           case atStart=> exact⟨(0),(by rfl),H',⟨Nat.le_refl _⟩,⟨by exact aC.out⟩,⟨by exact aE.out⟩,⟨HB.out⟩⟩
           case round=>
            clear H'
            obtain⟨aO,rfl,HA,dI,aC,aE,HB⟩:=hrel
            cases gk with
            |zero=> exact absurd HA.out (by simp[ententeref03_Check.l1])
            |succ k4=>
             have H:=HA.out
             clear HA
             simp only[ententeref03_Check.l1]at H
             by_cases bV:aO< aG
             ·rw[if_pos bV]at H
              have b2:=decide_eq_true bV
              clear bV
              by_cases dJ:0≤aO
              ·rw[if_pos dJ]at H
               have fE:=decide_eq_true dJ
               clear dJ
               by_cases dK:aO< (aD.length:Int)
               ·rw[if_pos dK]at H
                have fF:=decide_eq_true dK
                clear dK
                by_cases bP:((rd_T46 aD aO).f1)=((rd_T46 aD aG).f1)
                ·rw[if_pos bP]at H
                 have b3:=beq_iff_eq.mpr bP
                 have b4:=bne_eq_false_iff_eq.mpr bP
                 clear bP
                 obtain rfl:=Option.some.inj H
                 have fG:=aB.out
                 have fH:=aI.out
                 obtain⟨dL,dM,dN⟩:=bc3 aC.out
                 obtain⟨dO,dP,dQ⟩:=bf3 aC.out
                 have aV:0≤(aO:Int):=of_decide_eq_true (by(with_reducible assumption))
                 have aW:aO< (aD.length:Int):=of_decide_eq_true (by(with_reducible assumption))
                 obtain⟨a5,e328,aL,aM⟩:=at_T46 a4.out aO aV aW
                 obtain rfl:aY=a5:=(by injection e328)
                 try replace aL:=(HB.out.cell (World.block_lt_of_cell? w _ aL)).trans aL
                 try replace aM:=(HB.out.cell (World.block_lt_of_cell? w _ aM)).trans aM
                 replace aV:=eq_true aV
                 replace aW:=eq_true aW
                 obtain⟨dR,dS⟩:=bc2 aE.out
                 obtain⟨dT,dU⟩:=bf2 aE.out
                 go_wp2
                 repeat(go_quiet (fail);try go_wp2)
                 go_ret
                 exact⟨by rfl,pw_below_drewN HB.out _⟩
                ·rw[if_neg bP]at H
                 have b3:=beq_eq_false_iff_ne.mpr bP
                 have b4:=bne_iff_ne.mpr bP
                 have H':=am H
                 clear H
                 have fI:=aB.out
                 have fJ:=aI.out
                 obtain⟨dV,dW,dX⟩:=bc3 aC.out
                 obtain⟨dY,dZ,d0⟩:=bf3 aC.out
                 have aV:0≤(aO:Int):=of_decide_eq_true (by(with_reducible assumption))
                 have aW:aO< (aD.length:Int):=of_decide_eq_true (by(with_reducible assumption))
                 obtain⟨a5,e328,aL,aM⟩:=at_T46 a4.out aO aV aW
                 obtain rfl:aY=a5:=(by injection e328)
                 try replace aL:=(HB.out.cell (World.block_lt_of_cell? w _ aL)).trans aL
                 try replace aM:=(HB.out.cell (World.block_lt_of_cell? w _ aM)).trans aM
                 replace aV:=eq_true aV
                 replace aW:=eq_true aW
                 obtain⟨d1,d2⟩:=bc2 aE.out
                 obtain⟨d3,d4⟩:=bf2 aE.out
                 go_wp2
                 repeat(go_quiet (fail);try go_wp2)
                 go_roundg k4
                 case measure=> have:=a6.out;have:=a7.out;have:=bK.out;have:=dI.out;omega
                 case rel=> exact⟨(wrap64 (aO+1)),(by rfl),H',⟨by have:=a6.out;have:=a7.out;have:=bK.out;have:=dI.out;omega⟩,⟨by refine blk_drewN ?_ _;exact aC.out⟩,⟨by refine blk_drewN ?_ _;exact aE.out⟩,⟨pw_below_drewN HB.out _⟩⟩
               ·rw[if_neg dK]at H
                exact absurd H (by simp)
              ·rw[if_neg dJ]at H
               exact absurd H (by simp)
             ·rw[if_neg bV]at H
              have b2:=decide_eq_false bV
              clear bV
              have H':=am H
              clear H
              go_wp2
              repeat(go_quiet (fail);try go_wp2)
              go_roundg k4
              case measure=> have:=a6.out;have:=a7.out;have:=bK.out;have:=dI.out;omega
              case rel=> exact⟨(wrap64 (aG+1)),(by rfl),H',⟨by have:=a6.out;have:=a7.out;have:=bK.out;have:=dI.out;omega⟩,⟨by exact aC.out⟩,⟨HB.out⟩⟩
       ·rw[if_neg cI]at H
        exact absurd H (by simp)
      ·rw[if_neg bQ]at H
       have bN:=decide_eq_false bQ
       clear bQ
       obtain rfl:=Option.some.inj H
       obtain⟨d5,d6,d7⟩:=bc3 aC.out
       obtain⟨d8,d9,eA⟩:=bf3 aC.out
       go_wp2
       repeat(go_quiet (fail);try go_wp2)
       go_ret
       exact⟨by rfl,HB.out⟩

end Go.Proofs.YtlaeihdldofkcaaGreatDoor.PN

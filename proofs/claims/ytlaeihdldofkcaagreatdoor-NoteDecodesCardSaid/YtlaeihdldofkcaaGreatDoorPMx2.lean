/- The machine side of this seat's laws: plain functions, and proofs that the calls do what they say; written by a program of this session over the translation; no conditions beyond those typed. -/
import Derived.Test.YtlaeihdldofkcaaGreatDoorPMx0
import Derived.Test.YtlaeihdldofkcaaGreatDoorPMx1
namespace Go.Proofs.YtlaeihdldofkcaaGreatDoor.PN
open Go.RowKit Go.Proofs.YtlaeihdldofkcaaGreatDoorW.PrintWords Go.Proofs.YtlaeihdldofkcaaGreatDoorW.PrintLast Go.Proofs.YtlaeihdldofkcaaGreatDoorW.PrintMore
attribute [local go_sem] max2_int min2_int max_two min_two max_three min_three max_four min_four   -- for this text's walks alone
open List renaming setIfInBounds_toArray → l_a, set_cons_zero → l_z, set_cons_succ → l_s, map_toArray → l_m, map_cons → l_c, map_nil → l_n
set_option linter.unusedVariables false
set_option linter.unusedSimpArgs false

/-! ### note_Frame: function 9 -/
def note_Frame.j0:Nat→Bool→Int→Int→Int→Int→Int→Int→Int→Int→Int→List (S46)→ByteArray→Int→Option (Int)
 |0,_,_,_,_,_,_,_,_,_,_,_,_,_=> none
 |k+1,nK,bD,bE,dS,bF,dT,dU,aT,aU,aV,aW,aX,aY=> if nK=true then(some 130)else(if bF=0 then((note_empty.f aT aU aV aW aX aY).bind fun bA=> (if bA=true then(some 0)else(some 130)))else((note_Ends.f k aT aU aV aW aX aY).bind fun aQ=> (if aQ.1=bD then(if aQ.2=bE then(some 0)else(some 130))else(some 130))))
def note_Frame.f (k:Nat) (aH:Int) (aI:Int) (aJ:Int) (aK:Int) (aL:Int) (aM:Int) (aE:Int) (aF:Int) (aG:Int) (aD:List (S46)) (aB:ByteArray) (aC:Int):Option (Int):=if aH< 0 then(note_Frame.j0 k true aH aI aJ aK aL aM aE aF aG aD aB aC)else(if aH≥16 then(note_Frame.j0 k true aH aI aJ aK aL aM aE aF aG aD aB aC)else(if aI< 0 then(note_Frame.j0 k true aH aI aJ aK aL aM aE aF aG aD aB aC)else(if aI≥16 then(note_Frame.j0 k true aH aI aJ aK aL aM aE aF aG aD aB aC)else(if aH=aI then(note_Frame.j0 k true aH aI aJ aK aL aM aE aF aG aD aB aC)else((note_within.f k 1 (([aJ]:List Int))).bind fun bB=> (if bB=true then((note_within.f k 0 (([aK,aL,aM]:List Int))).bind fun aO=> (note_Frame.j0 k (!aO) aH aI aJ aK aL aM aE aF aG aD aB aC))else(note_Frame.j0 k true aH aI aJ aK aL aM aE aF aG aD aB aC)))))))
theorem note_Frame.mono_l:∀ k,(∀ y0 y1 y2 y3 y4 y5 y6 y7 y8 y9 lL lM lN,LeO (note_Frame.j0 k y0 y1 y2 y3 y4 y5 y6 y7 y8 y9 lL lM lN) (note_Frame.j0 (k+1) y0 y1 y2 y3 y4 y5 y6 y7 y8 y9 lL lM lN))
 |0=> fun _ _ _ _ _ _ _ _ _ _ _ _ _ r h=> by simp[note_Frame.j0]at h
 |k+1=> by
  have ih0:=note_Frame.mono_l k
  ·intro y0 y1 y2 y3 y4 y5 y6 y7 y8 y9 lL lM lN
   unfold note_Frame.j0
   repeat' with_reducible first|apply ih0|apply note_Ends.mono|apply note_within.mono|apply LeO.refl|apply LeO.none|refine LeO.ite ?_ ?_|refine LeO.bind ?_ (fun _=> ?_)
theorem note_Frame.mono:∀ a0 a1 a2 a3 a4 a5 a6 a7 a8 a9 a10 a11 k,LeO (note_Frame.f k a0 a1 a2 a3 a4 a5 a6 a7 a8 a9 a10 a11) (note_Frame.f (k+1) a0 a1 a2 a3 a4 a5 a6 a7 a8 a9 a10 a11):=by
 intro a0 a1 a2 a3 a4 a5 a6 a7 a8 a9 a10 a11 k
 have ih0:=note_Frame.mono_l k
 unfold note_Frame.f
 repeat' with_reducible first|apply ih0|apply note_Ends.mono|apply note_within.mono|apply LeO.refl|apply LeO.none|refine LeO.ite ?_ ?_|refine LeO.bind ?_ (fun _=> ?_)
set_option maxHeartbeats 8000000 in
set_option maxRecDepth 100000 in
theorem note_Frame.calls (k:Nat) (aH:Int) (aI:Int) (aJ:Int) (aK:Int) (aL:Int) (aM:Int) (aE:Int) (aF:Int) (aG:Int) (aP:Option Addr) (c0_9:Nat) (aD:List (S46)) (aB:ByteArray) (aC:Int) (r:Int) (w:World) (bI:Kd.C k46 w aP aD.length aD) (bJ:aD.length≤c0_9) (h:note_Frame.f k aH aI aJ aK aL aM aE aF aG aD aB aC=some r) :
  Calls Tryz.prog 9 #[.agg #[i6 aH,i6 aI,i6 aJ,i6 aK,i6 aL,i6 aM,i6 aE,i6 aF,i6 aG,.slice aP aD.length c0_9,.string aB,i6 aC]] w fun e w'=> e=.returned (i6 r)∧Below w.heap.size w w':=by
 have hu28:=Tryz.underlying28
 have hu26:=Tryz.underlying26
 have aR:=am bI
 have aS:=am bJ
 clear bI bJ
 have HB:=am (Below.refl w.heap.size w)
 unfold note_Frame.f at h
 have H:=h
 clear h
 have HC2:=am H
 clear H
 go_enter Tryz.func9,Tryz.ntmps9
 go_upto_region 1 with(first|((with_reducible refine gate_dst (N:=1) rfl ?_);(try(refine gate_guard (by rfl) ?_;dsimp only));refine box_event ?hg (N:=1) ?hd (cs:=#[i6 aH,i6 aI,i6 aJ,i6 aK,i6 aL,i6 aM,i6 aE,i6 aF,i6 aG,.slice aP aD.length c0_9,.string aB,i6 aC]) (t:=28) ?hr ?_;(case hd=> rfl);(case hg=> rfl);(case hr=> (go_simp;done));intro bK hg w3 hbox hb;have aA:=am (hbox);have nG:=am (gsz hg HB.out);have nH:=am (gsz hg HB.out);replace HB:=am (below_step (HB.out) hb);clear hb hbox hg))
 (try simp only[Act.put,l_a,l_z,l_s])
 go_cut [47] (fun v47 wc=> ∃ (kq:Nat) (aZ:Bool),v47=.bool aZ∧Aside0 (note_Frame.j0 kq aZ aH aI aJ aK aL aM aE aF aG aD aB aC=some r)∧Aside0 (kq≤k)∧Aside0 (wc.heap[bK]?=some (.cells #[i6 aH,i6 aI,i6 aJ,i6 aK,i6 aL,i6 aM,i6 aE,i6 aF,i6 aG,(.slice aP aD.length c0_9),.string aB,i6 aC] 28 (0,0)))∧Aside0 (Below w.heap.size w wc))
 case first=>
  have H:=HC2.out
  clear HC2
  by_cases c4:aH< 0
  ·rw[if_pos c4]at H
   have lO:=decide_eq_true c4
   clear c4
   (skip)
   have H':=am H
   clear H
   obtain⟨lP,lQ,lR,lS,lT,lU,lV,lW,lX,lY,dV,dW⟩:=bc12 aA.out
   obtain⟨lZ,l0,l1,l2,l3,l4,l5,l6,l7,l8,dX,dY⟩:=bf12 aA.out
   go_wp2
   go_meet
   case rel=> exact⟨_,(true),(by rfl),H',⟨by omega⟩,⟨by exact aA.out⟩,⟨HB.out⟩⟩
  ·rw[if_neg c4]at H
   have lO:=decide_eq_false c4
   clear c4
   (skip)
   by_cases c6:aH≥16
   ·rw[if_pos c6]at H
    have l9:decide (16≤aH)=true:=decide_eq_true c6
    clear c6
    have H':=am H
    clear H
    obtain⟨mA,mB,mC,mD,mE,mF,mG,mH,mI,mJ,dZ,d0⟩:=bc12 aA.out
    obtain⟨mK,mL,mM,mN,mO,mP,mQ,mR,mS,mT,d1,d2⟩:=bf12 aA.out
    go_wp2
    go_meet
    case rel=> exact⟨_,(true),(by rfl),H',⟨by omega⟩,⟨by exact aA.out⟩,⟨HB.out⟩⟩
   ·rw[if_neg c6]at H
    have l9:decide (16≤aH)=false:=decide_eq_false c6
    clear c6
    by_cases c8:aI< 0
    ·rw[if_pos c8]at H
     have mU:=decide_eq_true c8
     clear c8
     have H':=am H
     clear H
     obtain⟨mV,mW,mX,mY,mZ,m0,m1,m2,m3,m4,d3,d4⟩:=bc12 aA.out
     obtain⟨m5,m6,m7,m8,m9,nA,nB,nC,nD,nE,d5,d6⟩:=bf12 aA.out
     go_wp2
     go_meet
     case rel=> exact⟨_,(true),(by rfl),H',⟨by omega⟩,⟨by exact aA.out⟩,⟨HB.out⟩⟩
    ·rw[if_neg c8]at H
     have mU:=decide_eq_false c8
     clear c8
     by_cases c10:aI≥16
     ·rw[if_pos c10]at H
      have bQ:decide (16≤aI)=true:=decide_eq_true c10
      clear c10
      have H':=am H
      clear H
      obtain⟨d7,d8,d9,eA,eB,eC,eD,eE,eF,eG,bR,bS⟩:=bc12 aA.out
      obtain⟨eH,eI,eJ,eK,eL,eM,eN,eO,eP,eQ,bT,bU⟩:=bf12 aA.out
      go_wp2
      go_meet
      case rel=> exact⟨_,(true),(by rfl),H',⟨by omega⟩,⟨by exact aA.out⟩,⟨HB.out⟩⟩
     ·rw[if_neg c10]at H
      have bQ:decide (16≤aI)=false:=decide_eq_false c10
      clear c10
      by_cases bL:aH=aI
      ·rw[if_pos bL]at H
       have bV:=beq_iff_eq.mpr bL
       have bW:=bne_eq_false_iff_eq.mpr bL
       clear bL
       have H':=am H
       clear H
       obtain⟨eR,eS,eT,eU,eV,eW,eX,eY,eZ,e0,bX,bY⟩:=bc12 aA.out
       obtain⟨e1,e2,e3,e4,e5,e6,e7,e8,e9,fA,bZ,b0⟩:=bf12 aA.out
       go_wp2
       go_meet
       case rel=> exact⟨_,(true),(by rfl),H',⟨by omega⟩,⟨by exact aA.out⟩,⟨HB.out⟩⟩
      ·rw[if_neg bL]at H
       have bV:=beq_eq_false_iff_ne.mpr bL
       have bW:=bne_iff_ne.mpr bL
       obtain⟨bM,hy145⟩:∃ y_:List Int,y_=(([aJ]:List Int)):=⟨_,rfl⟩
       replace H:((note_within.f k 1 bM).bind fun bB=> (if bB=true then((note_within.f k 0 (([aK,aL,aM]:List Int))).bind fun aO=> (note_Frame.j0 k (!aO) aH aI aJ aK aL aM aE aF aG aD aB aC))else(note_Frame.j0 k true aH aI aJ aK aL aM aE aF aG aD aB aC)))=some r:=by(rw[hy145];with_reducible exact H)
       have Ny145:=am hy145
       clear hy145
       obtain⟨bB,b1,H⟩:=Option.bind_eq_some_iff.mp H
       try dsimp only at H
       have nI:=am b1
       clear b1
       by_cases fB:bB=true
       ·subst fB
        have H1:((note_within.f k 0 (([aK,aL,aM]:List Int))).bind fun aO=> (note_Frame.j0 k (!aO) aH aI aJ aK aL aM aE aF aG aD aB aC))=some r:=by rw[if_pos rfl]at H;exact H
        clear H
        have H:=H1
        clear H1
        obtain⟨b2,hy149⟩:∃ y_:List Int,y_=(([aK,aL,aM]:List Int)):=⟨_,rfl⟩
        replace H:((note_within.f k 0 b2).bind fun aO=> (note_Frame.j0 k (!aO) aH aI aJ aK aL aM aE aF aG aD aB aC))=some r:=by(rw[hy149];with_reducible exact H)
        have Ny149:=am hy149
        clear hy149
        obtain⟨aO,b3,H⟩:=Option.bind_eq_some_iff.mp H
        try dsimp only at H
        have nL:=am b3
        clear b3
        have H':=am H
        clear H
        obtain⟨fC,fD,fE,fF,fG,fH,fI,fJ,fK,fL,b4,b5⟩:=bc12 aA.out
        obtain⟨fM,fN,fO,fP,fQ,fR,fS,fT,fU,fV,b6,b7⟩:=bf12 aA.out
        go_wp2_with (first|((with_reducible refine gate_dst (N:=33) rfl ?_);(try(refine gate_guard (by rfl) ?_;dsimp only));refine Kd.R_lit (Kd.int .i64) _ 3 ?hg (N:=33) ?hd (xs:=([aJ]:List Int)) (inner:=[i6 aJ]) (ok:=fun _=> True) (okp:=fun _=> True) ?hr ?hp (fun _ hk=> hk) trivial (Below.refl _ _) (Nat.le_refl _) (by simp) ?_;(case hd=> rfl);(case hg=> rfl);(case hr=> (go_simp;done));(case hp=> exact(Reps.one (show Kd.M (Kd.int .i64) _ _ _ aJ [i6 aJ]from rfl) (Reps.none _ _)));intro v146 nS ho19 hb hg_ hnew_;clear hg_ hnew_;(rw[← Ny145.out]at ho19);have aN:=am (Kd.R_lower ho19 (below_size (HB.out)));replace aA:=am (blk_below aA.out hb);replace HB:=am (below_step (HB.out) hb);clear hb ho19;obtain⟨nM,nN,eo20⟩:=Kd.R_slice aN.out;subst eo20)|(go_at_call 26;(with_reducible refine(note_within.calls k 1 _ _ bM true _ ?side1 ?side2 nI.out).mono ?_);(case side1=> exact(Kd.R_reads' aN.out).2.2);(case side2=> exact(Kd.R_reads' aN.out).2.1);rintro e w' ⟨rfl,⟨nd,rfl⟩⟩;obtain⟨fW,fX,fY,fZ,f0,f1,f2,f3,f4,f5,b8,b9⟩:=bc12 aA.out;obtain⟨f6,f7,f8,f9,gA,gB,gC,gD,gE,gF,cA,cB⟩:=bf12 aA.out)|((with_reducible refine gate_dst (N:=44) rfl ?_);(try(refine gate_guard (by rfl) ?_;dsimp only));refine Kd.R_lit (Kd.int .i64) _ 3 ?hg (N:=44) ?hd (xs:=([aK,aL,aM]:List Int)) (inner:=[i6 aK,i6 aL,i6 aM]) (ok:=fun _=> True) (okp:=fun _=> True) ?hr ?hp (fun _ hk=> hk) trivial (Below.refl _ _) (Nat.le_refl _) (by simp) ?_;(case hd=> rfl);(case hg=> rfl);(case hr=> (go_simp;done));(case hp=> exact(Reps.one (show Kd.M (Kd.int .i64) _ _ _ aK [i6 aK]from rfl) (Reps.one (show Kd.M (Kd.int .i64) _ _ _ aL [i6 aL]from rfl) (Reps.one (show Kd.M (Kd.int .i64) _ _ _ aM [i6 aM]from rfl) (Reps.none _ _)))));intro v150 nT ho23 hb hg_ hnew_;clear hg_ hnew_;(rw[← Ny149.out]at ho23);have bC:=am (Kd.R_lower (Kd.R_new' ho23 (Kd.R_lt (by(with_reducible repeat apply Kd.R_drewN);exact aN.out))) (below_size (pw_below_drewN HB.out _)));replace aN:=am (Kd.R_elder' (by(with_reducible repeat apply Kd.R_drewN);exact aN.out) (Kd.R_base ho23) hb);replace aA:=am (blk_below (g:=bK) (o:=.cells #[i6 aH,i6 aI,i6 aJ,i6 aK,i6 aL,i6 aM,i6 aE,i6 aF,i6 aG,.slice aP aD.length c0_9,.string aB,i6 aC] 28 (0,0)) (by refine blk_drewN ?_ _;exact aA.out) hb);replace HB:=am (below_step (pw_below_drewN HB.out _) hb);clear hb ho23;obtain⟨nO,nP,eo24⟩:=Kd.R_slice bC.out;subst eo24)|(go_at_call 26;(with_reducible refine(note_within.calls k 0 _ _ b2 aO _ ?side1 ?side2 nL.out).mono ?_);(case side1=> exact(Kd.R_reads' bC.out).2.2);(case side2=> exact(Kd.R_reads' bC.out).2.1);rintro e w' ⟨rfl,⟨nd,rfl⟩⟩))
        go_meet
        case rel=> exact⟨_,(!aO),(by rfl),H',⟨by omega⟩,⟨by refine blk_drewN ?_ _;exact aA.out⟩,⟨pw_below_drewN HB.out _⟩⟩
       ·replace fB:=Bool.eq_false_iff.mpr fB
        subst fB
        have H1:(note_Frame.j0 k true aH aI aJ aK aL aM aE aF aG aD aB aC)=some r:=by rw[if_neg (show ¬ (false=true)by decide)]at H;exact H
        clear H
        have H:=H1
        clear H1
        have H':=am H
        clear H
        obtain⟨gG,gH,gI,gJ,gK,gL,gM,gN,gO,gP,cC,cD⟩:=bc12 aA.out
        obtain⟨gQ,gR,gS,gT,gU,gV,gW,gX,gY,gZ,cE,cF⟩:=bf12 aA.out
        go_wp2_with (first|((with_reducible refine gate_dst (N:=33) rfl ?_);(try(refine gate_guard (by rfl) ?_;dsimp only));refine Kd.R_lit (Kd.int .i64) _ 3 ?hg (N:=33) ?hd (xs:=([aJ]:List Int)) (inner:=[i6 aJ]) (ok:=fun _=> True) (okp:=fun _=> True) ?hr ?hp (fun _ hk=> hk) trivial (Below.refl _ _) (Nat.le_refl _) (by simp) ?_;(case hd=> rfl);(case hg=> rfl);(case hr=> (go_simp;done));(case hp=> exact(Reps.one (show Kd.M (Kd.int .i64) _ _ _ aJ [i6 aJ]from rfl) (Reps.none _ _)));intro v146 nU ho27 hb hg_ hnew_;clear hg_ hnew_;(rw[← Ny145.out]at ho27);have aN:=am (Kd.R_lower ho27 (below_size (HB.out)));replace aA:=am (blk_below aA.out hb);replace HB:=am (below_step (HB.out) hb);clear hb ho27;obtain⟨nQ,nR,eo28⟩:=Kd.R_slice aN.out;subst eo28)|(go_at_call 26;(with_reducible refine(note_within.calls k 1 _ _ bM false _ ?side1 ?side2 nI.out).mono ?_);(case side1=> exact(Kd.R_reads' aN.out).2.2);(case side2=> exact(Kd.R_reads' aN.out).2.1);rintro e w' ⟨rfl,⟨nd,rfl⟩⟩))
        go_meet
        case rel=> exact⟨_,(true),(by rfl),H',⟨by omega⟩,⟨by refine blk_drewN ?_ _;exact aA.out⟩,⟨pw_below_drewN HB.out _⟩⟩
 case rest=>
  clear HC2
  obtain⟨kq,aZ,rfl,HA,nV,aA,HB⟩:=hcut
  cases kq with
  |zero=> exact absurd HA.out (by simp[note_Frame.j0])
  |succ g0=>
   have H:=HA.out
   clear HA
   simp only[note_Frame.j0]at H
   by_cases g1:aZ=true
   ·subst g1
    have H1:(some 130)=some r:=by rw[if_pos rfl]at H;exact H
    clear H
    have H:=H1
    clear H1
    obtain rfl:=Option.some.inj H
    go_wp2
    go_ret
    exact⟨by rfl,HB.out⟩
   ·replace g1:=Bool.eq_false_iff.mpr g1
    subst g1
    have H1:(if aK=0 then((note_empty.f aE aF aG aD aB aC).bind fun bA=> (if bA=true then(some 0)else(some 130)))else((note_Ends.f g0 aE aF aG aD aB aC).bind fun aQ=> (if aQ.1=aH then(if aQ.2=aI then(some 0)else(some 130))else(some 130))))=some r:=by rw[if_neg (show ¬ (false=true)by decide)]at H;exact H
    clear H
    have H:=H1
    clear H1
    by_cases bN:aK=0
    ·rw[if_pos bN]at H
     have cG:=beq_iff_eq.mpr bN
     have cH:=bne_eq_false_iff_eq.mpr bN
     clear bN
     obtain⟨bA,cI,H⟩:=Option.bind_eq_some_iff.mp H
     try dsimp only at H
     have nJ:=am cI
     clear cI
     by_cases g2:bA=true
     ·subst g2
      have H1:(some 0)=some r:=by rw[if_pos rfl]at H;exact H
      clear H
      have H:=H1
      clear H1
      obtain rfl:=Option.some.inj H
      obtain⟨g3,g4,g5,g6,g7,g8,g9,hA,hB,hC,cJ,cK⟩:=bc12 aA.out
      obtain⟨hD,hE,hF,hG,hH,hI,hJ,hK,hL,hM,cL,cM⟩:=bf12 aA.out
      go_wp2_with (first|((with_reducible refine gate_callee (f:=27) rfl ?_);refine goesL_ (some 53) rfl rfl Tryz.func27 (by kernel_rfl) rfl #[.agg #[i6 aE,i6 aF,i6 aG,.slice aP aD.length c0_9,.string aB,i6 aC]] rfl (by(try simp only[l_m,l_c,l_n]);rfl) ?_;(with_reducible refine(note_empty.calls aE aF aG _ _ aD aB aC true _ ?side1 ?side2 nJ.out).mono ?_);(case side1=> exact(Kd.C_below aR.out HB.out));(case side2=> exact aS.out);rintro e nW ⟨rfl,hb⟩;refine⟨_,rfl,?_⟩;replace aA:=am (blk_below aA.out hb);replace HB:=am (below_step (HB.out) hb);clear hb))
      go_ret
      exact⟨by rfl,HB.out⟩
     ·replace g2:=Bool.eq_false_iff.mpr g2
      subst g2
      have H1:(some 130)=some r:=by rw[if_neg (show ¬ (false=true)by decide)]at H;exact H
      clear H
      have H:=H1
      clear H1
      obtain rfl:=Option.some.inj H
      obtain⟨hN,hO,hP,hQ,hR,hS,hT,hU,hV,hW,cN,cO⟩:=bc12 aA.out
      obtain⟨hX,hY,hZ,h0,h1,h2,h3,h4,h5,h6,cP,cQ⟩:=bf12 aA.out
      go_wp2_with (first|((with_reducible refine gate_callee (f:=27) rfl ?_);refine goesL_ (some 53) rfl rfl Tryz.func27 (by kernel_rfl) rfl #[.agg #[i6 aE,i6 aF,i6 aG,.slice aP aD.length c0_9,.string aB,i6 aC]] rfl (by(try simp only[l_m,l_c,l_n]);rfl) ?_;(with_reducible refine(note_empty.calls aE aF aG _ _ aD aB aC false _ ?side1 ?side2 nJ.out).mono ?_);(case side1=> exact(Kd.C_below aR.out HB.out));(case side2=> exact aS.out);rintro e nX ⟨rfl,hb⟩;refine⟨_,rfl,?_⟩;replace aA:=am (blk_below aA.out hb);replace HB:=am (below_step (HB.out) hb);clear hb))
      go_ret
      exact⟨by rfl,HB.out⟩
    ·rw[if_neg bN]at H
     have cG:=beq_eq_false_iff_ne.mpr bN
     have cH:=bne_iff_ne.mpr bN
     obtain⟨⟨bG,bH⟩,cR,H⟩:=Option.bind_eq_some_iff.mp H
     try dsimp only at H
     have nF:=am cR
     clear cR
     by_cases bO:bG=aH
     ·rw[if_pos bO]at H
      have cS:=beq_iff_eq.mpr bO
      have cT:=bne_eq_false_iff_eq.mpr bO
      clear bO
      by_cases bP:bH=aI
      ·rw[if_pos bP]at H
       have cU:=beq_iff_eq.mpr bP
       have cV:=bne_eq_false_iff_eq.mpr bP
       clear bP
       obtain rfl:=Option.some.inj H
       obtain⟨h7,h8,h9,iA,iB,iC,iD,iE,iF,iG,cW,cX⟩:=bc12 aA.out
       obtain⟨iH,iI,iJ,iK,iL,iM,iN,iO,iP,iQ,cY,cZ⟩:=bf12 aA.out
       go_wp2_with (first|((with_reducible refine gate_callee (f:=15) rfl ?_);refine goesL_ (some 58) rfl rfl Tryz.func15 (by kernel_rfl) rfl #[.agg #[i6 aE,i6 aF,i6 aG,.slice aP aD.length c0_9,.string aB,i6 aC]] rfl (by(try simp only[l_m,l_c,l_n]);rfl) ?_;(with_reducible refine(note_Ends.calls g0 aE aF aG _ _ aD aB aC bG bH _ ?side1 ?side2 nF.out).mono ?_);(case side1=> exact(Kd.C_below aR.out HB.out));(case side2=> exact aS.out);rintro e nY ⟨rfl,hb⟩;refine⟨_,rfl,?_⟩;replace aA:=am (blk_below aA.out hb);replace HB:=am (below_step (HB.out) hb);clear hb;obtain⟨iR,iS,iT,iU,iV,iW,iX,iY,iZ,i0,c0,c1⟩:=bc12 aA.out;obtain⟨i1,i2,i3,i4,i5,i7,i8,i9,jA,jB,dA,dB⟩:=bf12 aA.out))
       go_ret
       exact⟨by rfl,HB.out⟩
      ·rw[if_neg bP]at H
       have cU:=beq_eq_false_iff_ne.mpr bP
       have cV:=bne_iff_ne.mpr bP
       obtain rfl:=Option.some.inj H
       obtain⟨jC,jD,jE,jF,jG,jH,jI,jJ,jK,jL,dC,dD⟩:=bc12 aA.out
       obtain⟨jM,jN,jO,jP,jQ,jR,jS,jT,jU,jV,dE,dF⟩:=bf12 aA.out
       go_wp2_with (first|((with_reducible refine gate_callee (f:=15) rfl ?_);refine goesL_ (some 58) rfl rfl Tryz.func15 (by kernel_rfl) rfl #[.agg #[i6 aE,i6 aF,i6 aG,.slice aP aD.length c0_9,.string aB,i6 aC]] rfl (by(try simp only[l_m,l_c,l_n]);rfl) ?_;(with_reducible refine(note_Ends.calls g0 aE aF aG _ _ aD aB aC bG bH _ ?side1 ?side2 nF.out).mono ?_);(case side1=> exact(Kd.C_below aR.out HB.out));(case side2=> exact aS.out);rintro e nZ ⟨rfl,hb⟩;refine⟨_,rfl,?_⟩;replace aA:=am (blk_below aA.out hb);replace HB:=am (below_step (HB.out) hb);clear hb;obtain⟨jW,jX,jY,jZ,j1,j2,j3,j4,j5,j6,dG,dH⟩:=bc12 aA.out;obtain⟨j7,j8,j9,kA,kB,kC,kD,kE,kF,kG,dI,dJ⟩:=bf12 aA.out))
       go_ret
       exact⟨by rfl,HB.out⟩
     ·rw[if_neg bO]at H
      have cS:=beq_eq_false_iff_ne.mpr bO
      have cT:=bne_iff_ne.mpr bO
      obtain rfl:=Option.some.inj H
      obtain⟨kH,kI,kJ,kK,kL,kM,kN,kO,kP,kQ,dK,dL⟩:=bc12 aA.out
      obtain⟨kR,kS,kT,kU,kV,kW,kX,kY,kZ,k0,dM,dN⟩:=bf12 aA.out
      go_wp2_with (first|((with_reducible refine gate_callee (f:=15) rfl ?_);refine goesL_ (some 58) rfl rfl Tryz.func15 (by kernel_rfl) rfl #[.agg #[i6 aE,i6 aF,i6 aG,.slice aP aD.length c0_9,.string aB,i6 aC]] rfl (by(try simp only[l_m,l_c,l_n]);rfl) ?_;(with_reducible refine(note_Ends.calls g0 aE aF aG _ _ aD aB aC bG bH _ ?side1 ?side2 nF.out).mono ?_);(case side1=> exact(Kd.C_below aR.out HB.out));(case side2=> exact aS.out);rintro e n0 ⟨rfl,hb⟩;refine⟨_,rfl,?_⟩;replace aA:=am (blk_below aA.out hb);replace HB:=am (below_step (HB.out) hb);clear hb;obtain⟨k1,k2,k3,k4,k5,k6,k7,k8,k9,lA,dO,dP⟩:=bc12 aA.out;obtain⟨lB,lC,lD,lE,lF,lG,lH,lI,lJ,lK,dQ,dR⟩:=bf12 aA.out))
      go_ret
      exact⟨by rfl,HB.out⟩

/-! ### pack_Number: function 18 -/
def pack_Number.l0:Nat→Int→List Int→Option (ByteArray)
 |0,_,_=> none
 |k+1,x0,x3=> if x0≥128 then(if x3.length< 140737488355328 then(pack_Number.l0 k (x0 / 128) (x3++[Go.bits .or .u8 ((x0) % 256) 128]))else(none))else(if x3.length< 140737488355328 then(some (strOfNums (x3++[(x0) % 256])))else(none))
def pack_Number.f (k:Nat) (a0:Int):Option (ByteArray):=pack_Number.l0 k a0 (List.replicate 0 0)
theorem pack_Number.mono_l:∀ k,(∀ y0 y1,LeO (pack_Number.l0 k y0 y1) (pack_Number.l0 (k+1) y0 y1))
 |0=> fun _ _ r h=> by simp[pack_Number.l0]at h
 |k+1=> by
  have ih0:=pack_Number.mono_l k
  ·intro y0 y1
   unfold pack_Number.l0
   repeat' with_reducible first|apply ih0|apply LeO.refl|apply LeO.none|refine LeO.ite ?_ ?_|refine LeO.bind ?_ (fun _=> ?_)
theorem pack_Number.mono:∀ a0 k,LeO (pack_Number.f k a0) (pack_Number.f (k+1) a0):=by
 intro a0 k
 have ih0:=pack_Number.mono_l k
 unfold pack_Number.f
 repeat' with_reducible first|apply ih0|apply LeO.refl|apply LeO.none|refine LeO.ite ?_ ?_|refine LeO.bind ?_ (fun _=> ?_)
set_option maxHeartbeats 8000000 in
set_option maxRecDepth 100000 in
theorem pack_Number.calls (k:Nat) (a0:Int) (r:ByteArray) (w:World) (h:pack_Number.f k a0=some r) :
  Calls Tryz.prog 18 #[.int .u64 a0] w fun e w'=> e=.returned (.string r)∧Below w.heap.size w w':=by
 have HB:=am (Below.refl w.heap.size w)
 unfold pack_Number.f at h
 have H:=h
 clear h
 obtain⟨aD,hy156⟩:∃ y_:List Int,y_=(List.replicate 0 0):=⟨_,rfl⟩
 replace H:(pack_Number.l0 k a0 aD)=some r:=by(rw[hy156];with_reducible exact H)
 have Ny156:=am hy156
 clear hy156
 have H':=am H
 clear H
 go_enter Tryz.func18,Tryz.ntmps18
 go_wp2_with (first|((with_reducible refine gate_dst (N:=4) rfl ?_);refine Kd_R_make0 (Kd.int .u8) _ 5 rfl (N:=4) rfl 81 _ _ rfl 10 rfl rfl Tryz.underlying81 (.int .u8 0) 1 info5 rfl (by decide) (by omega) 0 (ok:=fun _=> True) (okp:=fun _=> True) rfl (fun _ hk=> hk) trivial (by omega) (by omega) (Below.refl _ _) (Nat.le_refl _) ?_;intro v157 w2 ho3 hb hg_ hnew_;clear hg_ hnew_;(rw[← Ny156.out]at ho3);have aE:=am (Kd.R_lower ho3 (below_size (HB.out)));replace HB:=am (below_step (HB.out) hb);clear hb ho3))
 go_loopg [0,3] k (fun kq v0 v3 w'=> ∃ (aA:Int) (aC:List Int),v0=.int .u64 aA∧Aside0 (pack_Number.l0 kq aA aC=some r)∧Aside0 (kq≤k)∧Aside0 (Kd.R (Kd.int .u8) 5 w' w.heap.size (fun _=> True) v3 aC)∧Aside0 (Below w.heap.size w w'))
 case atStart=> exact⟨(a0),(aD),(by rfl),H',⟨Nat.le_refl _⟩,⟨by exact aE.out⟩,⟨HB.out⟩⟩
 case round=>
  clear H'
  obtain⟨aA,aC,rfl,HA,aM,HO_3,HB⟩:=hrel
  cases gk with
  |zero=> exact absurd HA.out (by simp[pack_Number.l0])
  |succ k1=>
   have H:=HA.out
   clear HA
   simp only[pack_Number.l0]at H
   by_cases c4:aA≥128
   ·rw[if_pos c4]at H
    have aJ:decide (128≤aA)=true:=decide_eq_true c4
    clear c4
    by_cases c5:aC.length< 140737488355328
    ·rw[if_pos c5]at H
     have LMc5:=am c5
     clear c5
     obtain⟨aG,hy159⟩:∃ y_:List Int,y_=(aC++[Go.bits .or .u8 ((aA) % 256) 128]):=⟨_,rfl⟩
     replace H:(pack_Number.l0 k1 (aA / 128) aG)=some r:=by(rw[hy159];with_reducible exact H)
     have Ny159:=am hy159
     clear hy159
     have H':=am H
     clear H
     go_wp2_with (first|((with_reducible refine gate_builtin (b:=.append) (xs:=#[.tmp 7,.tmp 11]) rfl ?_);at_builtin;refine Kd.R_append (Kd.int .u8) (w0:=w) w.heap.size rfl (.tmp 7) (.tmp 11) 81 5 (.int .u8 0) 1 rfl Tryz.underlying81 info5 rfl (by decide) (by omega) u3 aC (Go.bits .or .u8 ((aA) % 256) 128) [.int .u8 (Go.bits .or .u8 ((aA) % 256) 128)] (fun _=> True) (fun _=> False) rfl rfl ?aP (fun _ hk=> hk.elim) ?aF ?aO ?aB ?aS ?aL ?_;(case aP=> exact rfl);(case aB=> exact(HB.out));(case aF=> exact(fun _ _=> trivial));(case aO=> exact(by exact HO_3.out));(case aS=> exact(below_size (HB.out)));(case aL=> have:=LMc5.out;omega);intro v160 w6 ho hb hg hat;rw[← Ny159.out]at ho;replace HB:=am (hb);have aH:=am (ho);clear HO_3;clear ho hb hg hat))
     go_roundg k1
     case measure=> have:=aM.out;omega
     case rel=> exact⟨(aA / 128),(aG),(by rfl),H',⟨by have:=aM.out;omega⟩,⟨by exact aH.out⟩,⟨HB.out⟩⟩
    ·rw[if_neg c5]at H
     exact absurd H (by simp)
   ·rw[if_neg c4]at H
    have aJ:decide (128≤aA)=false:=decide_eq_false c4
    clear c4
    by_cases c7:aC.length< 140737488355328
    ·rw[if_pos c7]at H
     have LMc7:=am c7
     clear c7
     obtain⟨aK,hy162⟩:∃ y_:List Int,y_=(aC++[(aA) % 256]):=⟨_,rfl⟩
     replace H:(some (strOfNums aK))=some r:=by(rw[hy162];with_reducible exact H)
     have Ny162:=am hy162
     clear hy162
     obtain rfl:=Option.some.inj H
     go_wp2_with (first|((with_reducible refine gate_builtin (b:=.append) (xs:=#[.tmp 15,.tmp 18]) rfl ?_);at_builtin;refine Kd.R_append (Kd.int .u8) (w0:=w) w.heap.size rfl (.tmp 15) (.tmp 18) 81 5 (.int .u8 0) 1 rfl Tryz.underlying81 info5 rfl (by decide) (by omega) u3 aC ((aA) % 256) [.int .u8 ((aA) % 256)] (fun _=> True) (fun _=> False) rfl rfl ?aP (fun _ hk=> hk.elim) ?aF ?aO ?aB ?aS ?aL ?_;(case aP=> exact rfl);(case aB=> exact(HB.out));(case aF=> exact(fun _ _=> trivial));(case aO=> exact(by exact HO_3.out));(case aS=> exact(below_size (HB.out)));(case aL=> have:=LMc7.out;omega);intro v163 w8 ho hb hg hat;rw[← Ny162.out]at ho;replace HB:=am (hb);have aI:=am (ho);clear HO_3;clear ho hb hg hat;have hcv9:=own_string (P:=Tryz.prog) Tryz.underlying81 Tryz.underlying5 Tryz.underlying9 (Kd.own_of_R aI.out)))
     go_ret
     exact⟨by rfl,HB.out⟩
    ·rw[if_neg c7]at H
     exact absurd H (by simp)

/-! ### strconv_Itoa: function 37 -/
def strconv_Itoa.f (a0:Int):Option ByteArray:=if -9223372036854775808≤a0∧a0≤9223372036854775807 then some ⟨(Lib.itoa a0).toArray⟩else none
theorem strconv_Itoa.calls (a0:Int) (r:ByteArray) (w:World) (hw_:WH w) (h:strconv_Itoa.f a0=some r):Calls Tryz.prog 37 #[i6 a0] w fun e w'=> e=.returned (.string r)∧Below w.heap.size w w':=by
 unfold strconv_Itoa.f at h
 by_cases hb:-9223372036854775808≤a0∧a0≤9223372036854775807
 ·rw[if_pos hb]at h
  obtain rfl:=Option.some.inj h
  refine(Any.strconv_Itoa Tryz.laysNm_171 a0 hb.1 hb.2 w hw_.tab).mono ?_
  rintro e w' ⟨rfl,k,os,rfl⟩
  exact⟨rfl,Go.Lib.below_grow _ w (Nat.le_refl _) k os⟩
 ·rw[if_neg hb]at h;cases h

/-! ### ident_Show: function 19 -/
def ident_Show.l0:Nat→ByteArray→List (S46)→Int→Int→Option (ByteArray×Int)
 |0,_,_,_,_=> none
 |k+1,x5,bW,cG,bI=> if bI< cG then(if 0≤bI then(if bI< (bW.length:Int)then((strconv_Itoa.f ((rd_T46 bW bI).f0)).bind fun aF=> (if 1+aF.size≤9223372036854775807 then(if 1+aF.size+1≤9223372036854775807 then((strconv_Itoa.f ((rd_T46 bW bI).f1)).bind fun aK=> (if 1+aF.size+1+aK.size≤9223372036854775807 then(if x5.size+(1+aF.size+1+aK.size)≤9223372036854775807 then(ident_Show.l0 k (x5++((((⟨#[47]⟩:ByteArray)++aF)++(⟨#[64]⟩:ByteArray))++aK)) bW cG (wrap64 (bI+1)))else(none))else(none)))else(none))else(none)))else(none))else(none))else(some (x5,0))
def ident_Show.f (k:Nat) (aG:Int) (aH:Int) (aC:List (S46)):Option (ByteArray×Int):=(ident_Check.f aG aH aC).bind fun aS=> (if aS=0 then((strconv_Itoa.f aG).bind fun aL=> (if aL.size+1≤9223372036854775807 then((strconv_Itoa.f aH).bind fun aR=> (if aL.size+1+aR.size≤9223372036854775807 then(ident_Show.l0 k ((aL++(⟨#[46]⟩:ByteArray))++aR) aC (aC.length:Int) 0)else(none)))else(none)))else(some ((⟨#[]⟩:ByteArray),aS)))
theorem ident_Show.mono_l:∀ k,(∀ y0 y1 y2 y3,LeO (ident_Show.l0 k y0 y1 y2 y3) (ident_Show.l0 (k+1) y0 y1 y2 y3))
 |0=> fun _ _ _ _ r h=> by simp[ident_Show.l0]at h
 |k+1=> by
  have ih0:=ident_Show.mono_l k
  ·intro y0 y1 y2 y3
   unfold ident_Show.l0
   repeat' with_reducible first|apply ih0|apply LeO.refl|apply LeO.none|refine LeO.ite ?_ ?_|refine LeO.bind ?_ (fun _=> ?_)
theorem ident_Show.mono:∀ a0 a1 a2 k,LeO (ident_Show.f k a0 a1 a2) (ident_Show.f (k+1) a0 a1 a2):=by
 intro a0 a1 a2 k
 have ih0:=ident_Show.mono_l k
 unfold ident_Show.f
 repeat' with_reducible first|apply ih0|apply LeO.refl|apply LeO.none|refine LeO.ite ?_ ?_|refine LeO.bind ?_ (fun _=> ?_)
def ident_Show.T4:Bool×List (List Nat×List Nat):=(true,[([],[]),([0],[0]),([1],[1]),([2],[2]),([],[]),([4],[4]),([5,2],[5]),([3,6],[3,6]),([7,6,0,1,2,3,4,5,6,7],[7])])
def ident_Show.B4:List Nat:=[0,1,3,7,0,16,55,127,255]
theorem ident_Show.tab4:rtab .any (opsOf Tryz.f19 4)=ident_Show.T4:=by kernel_rfl
theorem ident_Show.bits4:waitsOk ident_Show.T4.2 ident_Show.B4=true:=by kernel_rfl
def ident_Show.T8:Bool×List (List Nat×List Nat):=(true,[([],[]),([],[]),([1],[1]),([2],[2]),([3],[3]),([4],[4]),([],[]),([6],[6]),([7,3],[7]),([5,8],[5,8]),([0,9],[0,9]),([10,8,0,1,2,3,4,5,6,7,8,9,10],[0,10])])
def ident_Show.B8:List Nat:=[0,0,2,6,14,30,0,64,206,510,1023,2047]
theorem ident_Show.tab8:rtab .any (opsOf Tryz.f19 8)=ident_Show.T8:=by kernel_rfl
theorem ident_Show.bits8:waitsOk ident_Show.T8.2 ident_Show.B8=true:=by kernel_rfl
set_option maxHeartbeats 8000000 in
set_option maxRecDepth 100000 in
theorem ident_Show.calls (k:Nat) (aG:Int) (aH:Int) (aQ:Option Addr) (c0_2:Nat) (aC:List (S46)) (r1:ByteArray) (r2:Int) (w:World) (a6:Kd.C k46 w aQ aC.length aC) (a7:aC.length≤c0_2) (hw_:WH w) (h:ident_Show.f k aG aH aC=some (r1,r2)) :
  Calls Tryz.prog 19 #[.agg #[i6 aG,i6 aH,.slice aQ aC.length c0_2]] w fun e w'=> e=.returned (.tuple #[.string r1,i6 r2])∧Below w.heap.size w w':=by
 have hu24:=Tryz.underlying24
 have hu46:=Tryz.underlying46
 have aW:=am a6
 have a8:=am a7
 clear a6 a7
 have HWH_:=am hw_
 clear hw_
 have HB:=am (Below.refl w.heap.size w)
 unfold ident_Show.f at h
 have H:=h
 clear h
 obtain⟨aS,cH,H⟩:=Option.bind_eq_some_iff.mp H
 try dsimp only at H
 have A2:=am cH
 clear cH
 by_cases c3:aS=0
 ·rw[if_pos c3]at H
  have bK:=beq_iff_eq.mpr c3
  have bL:=bne_eq_false_iff_eq.mpr c3
  clear c3
  obtain⟨aL,cI,H⟩:=Option.bind_eq_some_iff.mp H
  try dsimp only at H
  have A4:=am cI
  clear cI
  by_cases c5:aL.size+1≤9223372036854775807
  ·rw[if_pos c5]at H
   have cA:=eq_true c5
   have cB:=decide_eq_true c5
   try have cC:(9223372036854775807< aL.size+1)=False:=eq_false (Nat.not_lt.2 c5)
   obtain⟨aR,cJ,H⟩:=Option.bind_eq_some_iff.mp H
   try dsimp only at H
   have A6:=am cJ
   clear cJ
   by_cases c7:aL.size+1+aR.size≤9223372036854775807
   ·rw[if_pos c7]at H
    have cD:=eq_true c7
    have cE:=decide_eq_true c7
    try have cF:(9223372036854775807< aL.size+1+aR.size)=False:=eq_false (Nat.not_lt.2 c7)
    have H':=am H
    clear H
    go_enter Tryz.func19,Tryz.ntmps19
    try go_wp2_with (first|((with_reducible refine gate_dst (N:=1) rfl ?_);refine box_event ?hg (N:=1) ?hd (cs:=#[i6 aG,i6 aH,.slice aQ aC.length c0_2]) (t:=24) ?hr ?_;(case hd=> rfl);(case hg=> rfl);(case hr=> (go_simp;done));intro aJ hg w8 hbox hb;have aA:=am (hbox);have bM:=am (gsz hg HB.out);have bN:=am (gsz hg HB.out);replace HB:=am (below_step (HB.out) hb);clear hb hbox hg;obtain⟨bA,bB,bC⟩:=bc3 aA.out;obtain⟨bD,bE,bF⟩:=bf3 aA.out)|((with_reducible refine gate_callee (f:=41) rfl ?_);refine goesL_ (some 9) rfl rfl Tryz.func41 (by kernel_rfl) rfl #[.agg #[i6 aG,i6 aH,.slice aQ aC.length c0_2]] rfl (by(try simp only[l_m,l_c,l_n]);rfl) ?_;(with_reducible refine(ident_Check.calls aG aH _ _ aC aS _ ?side1 ?side2 A2.out).mono ?_);(case side1=> exact(Kd.C_below aW.out HB.out));(case side2=> exact a8.out);rintro e dA ⟨rfl,hb⟩;refine⟨_,rfl,?_⟩;replace aA:=am (blk_below aA.out hb);replace HB:=am (below_step (HB.out) hb);clear hb))
    have aM:=am (blk_drew aA.out)
    have aN:=am (below_drew1 HB.out)
    clear aA HB
    have aA:=aM
    have HB:=aN
    clear aM aN
    refine start_ (n:=9) (S:=fun w'=> w'.cell? ⟨aJ,0,none⟩=some (i6 aG)∧w'.cell? ⟨aJ,1,none⟩=some (i6 aH)∧w'.cell? ⟨aJ,2,none⟩=some (.slice aQ aC.length c0_2)) (ds:=[]) (rl [0,9]) (by kernel_rfl) rfl rfl (bc3 aA.out) (fun hHeld=> ?_);refine with_tabW ident_Show.tab4 ident_Show.bits4 (fun HT_ HW_=> ?_)
    generalize dA.drew=dE at aA HB hHeld ⊢
    refine pure_ (i:=0) (N:=some 13) (v:=?_) (a':=?_) (rl [1,8]) rfl rfl (any_of HT_.out (by kernel_rfl)) (fun _ _ _ h=> h) (Or.inl ⟨by rfl,?_⟩) ?_ ?_
    rotate_left
    ·intro w'
     go_simp
     with_reducible rfl
    rotate_left
    ·simp only[Act.put,l_a,l_z,l_s,i64_w,i32_w]
     rfl
    refine pure_ (i:=4) (N:=some 17) (v:=?_) (a':=?_) (rl [1,3,1,4]) rfl rfl (any_of HT_.out (by kernel_rfl)) (fun _ _ _ h=> h) (Or.inl ⟨by rfl,?_⟩) ?_ ?_
    rotate_left
    ·intro w'
     go_simp
     with_reducible rfl
    rotate_left
    ·simp only[Act.put,l_a,l_z,l_s,i64_w,i32_w]
     rfl
    refine take_ (i:=1) (N:=some 14) (v:=?_) (a':=?_) (rl [2,2,1,4]) rfl rfl (take_ofW HT_.out HW_.out (by kernel_rfl)) (fun _ _ _ h=> h) (Or.inl ⟨by rfl,?_⟩) hHeld ?_ ?_
    rotate_left
    ·rintro w' ⟨s0,s1,s2⟩
     go_simp
     with_reducible rfl
    rotate_left
    ·simp only[Act.put,l_a,l_z,l_s,i64_w,i32_w]
     rfl
    refine take_ (i:=5) (N:=some 18) (v:=?_) (a':=?_) (rl [2,2,2,3]) rfl rfl (take_ofW HT_.out HW_.out (by kernel_rfl)) (fun _ _ _ h=> h) (Or.inl ⟨by rfl,?_⟩) hHeld ?_ ?_
    rotate_left
    ·rintro w' ⟨s0,s1,s2⟩
     go_simp
     with_reducible rfl
    rotate_left
    ·simp only[Act.put,l_a,l_z,l_s,i64_w,i32_w]
     rfl
    refine one_ (i:=2) (N:=some 15) (rl [3,1,2,3]) rfl rfl (one_of HT_.out (by kernel_rfl)) (by decide) (fun K hK=> ?_)
    refine goes_ Tryz.func37 (by kernel_rfl) rfl #[i6 aG] (by rfl) rfl rfl (by(try simp only[l_m,l_c,l_n]);rfl) ?_
    with_reducible refine(strconv_Itoa.calls aG aL _ ?side1 A4.out).mono ?_
    (case side1=> exact WH.below HWH_.out (HB.out))
    rintro e dF ⟨rfl,hb⟩
    refine⟨_,rfl,?_⟩
    have aM:=am (blk_below aA.out hb)
    have aN:=am (below_step (HB.out) hb)
    clear aA HB
    have aA:=aM
    have HB:=aN
    clear aM aN
    clear hb
    refine hK.out _ _ (bc3 aA.out) (fun hHeld=> ?_)
    clear hK K
    refine norm_ (a':=?_) ?_ ?_
    rotate_left
    ·show Act.put _ (some 15) _=_
     simp only[Act.put,l_a,l_z,l_s,i64_w,i32_w]
     rfl
    refine pure_ (i:=3) (N:=some 16) (v:=?_) (a':=?_) (rl [6,3]) rfl rfl (any_of HT_.out (by kernel_rfl)) (fun _ _ _ h=> h) (Or.inl ⟨by rfl,?_⟩) ?_ ?_
    rotate_left
    ·intro w'
     go_simp
     with_reducible rfl
    rotate_left
    ·simp only[Act.put,l_a,l_z,l_s,i64_w,i32_w]
     rfl
    refine one_ (i:=6) (N:=some 19) (rl [7,2]) rfl rfl (one_of HT_.out (by kernel_rfl)) (by decide) (fun K hK=> ?_)
    refine goes_ Tryz.func37 (by kernel_rfl) rfl #[i6 aH] (by rfl) rfl rfl (by(try simp only[l_m,l_c,l_n]);rfl) ?_
    with_reducible refine(strconv_Itoa.calls aH aR _ ?side1 A6.out).mono ?_
    (case side1=> exact WH.below HWH_.out (HB.out))
    rintro e dG ⟨rfl,hb⟩
    refine⟨_,rfl,?_⟩
    have aM:=am (blk_below aA.out hb)
    have aN:=am (below_step (HB.out) hb)
    clear aA HB
    have aA:=aM
    have HB:=aN
    clear aM aN
    clear hb
    refine hK.out _ _ (bc3 aA.out) (fun hHeld=> ?_)
    clear hK K
    refine norm_ (a':=?_) ?_ ?_
    rotate_left
    ·show Act.put _ (some 19) _=_
     simp only[Act.put,l_a,l_z,l_s,i64_w,i32_w]
     rfl
    refine pure_ (i:=7) (N:=some 20) (v:=?_) (a':=?_) (rl [8,1]) rfl rfl (any_of HT_.out (by kernel_rfl)) (fun _ _ _ h=> h) (Or.inl ⟨by rfl,?_⟩) ?_ ?_
    rotate_left
    ·intro w'
     go_simp
     with_reducible rfl
    rotate_left
    ·simp only[Act.put,l_a,l_z,l_s,i64_w,i32_w]
     rfl
    refine pure_ (i:=8) (N:=some 5) (v:=?_) (a':=?_) (rl [9]) rfl rfl (any_of HT_.out (by kernel_rfl)) (fun _ _ _ h=> h) (Or.inl ⟨by rfl,?_⟩) ?_ ?_
    rotate_left
    ·intro w'
     go_simp
     with_reducible rfl
    rotate_left
    ·simp only[Act.put,l_a,l_z,l_s,i64_w,i32_w]
     rfl
    refine done_ (done_of HT_.out (by kernel_rfl)) ?_
    obtain⟨aX,aY,aZ⟩:=bc3 aA.out
    obtain⟨a3,a4,a5⟩:=bf3 aA.out
    try go_wp2
    go_loopg [5,24] k (fun kq v5 v24 w'=> ∃ (aT:ByteArray) (aB:Int),v5=.string aT∧v24=i6 aB∧Aside0 (ident_Show.l0 kq aT aC (aC.length:Int) aB=some (r1,r2))∧Aside0 (kq≤k)∧Aside0 (w'.heap[aJ]?=some (.cells #[i6 aG,i6 aH,(.slice aQ aC.length c0_2)] 24 (0,0)))∧Aside0 (Below w.heap.size w w'))
    case atStart=> exact⟨((aL++(⟨#[46]⟩:ByteArray))++aR),(0),(by rfl),(by rfl),H',⟨Nat.le_refl _⟩,⟨by exact aA.out⟩,⟨HB.out⟩⟩
    case round=>
     clear H'
     clear bK bL c5 cA cB cC c7 cD cE cF aX aY aZ bA bB bC a3 a4 a5 bD bE bF
     obtain⟨aT,aB,rfl,rfl,HA,cK,aA,HB⟩:=hrel
     cases gk with
     |zero=> exact absurd HA.out (by simp[ident_Show.l0])
     |succ k1=>
      have H:=HA.out
      clear HA
      simp only[ident_Show.l0]at H
      by_cases bJ:aB< (aC.length:Int)
      ·rw[if_pos bJ]at H
       have bO:=decide_eq_true bJ
       clear bJ
       by_cases bX:0≤aB
       ·rw[if_pos bX]at H
        have cL:=decide_eq_true bX
        clear bX
        by_cases bY:aB< (aC.length:Int)
        ·rw[if_pos bY]at H
         have cM:=decide_eq_true bY
         clear bY
         obtain⟨aF,bP,H⟩:=Option.bind_eq_some_iff.mp H
         try dsimp only at H
         have dB:=am bP
         clear bP
         by_cases bQ:1+aF.size≤9223372036854775807
         ·rw[if_pos bQ]at H
          have cN:=eq_true bQ
          have cO:=decide_eq_true bQ
          try have cP:(9223372036854775807< 1+aF.size)=False:=eq_false (Nat.not_lt.2 bQ)
          by_cases bR:1+aF.size+1≤9223372036854775807
          ·rw[if_pos bR]at H
           have cQ:=eq_true bR
           have cR:=decide_eq_true bR
           try have cS:(9223372036854775807< 1+aF.size+1)=False:=eq_false (Nat.not_lt.2 bR)
           obtain⟨aK,bS,H⟩:=Option.bind_eq_some_iff.mp H
           try dsimp only at H
           have dC:=am bS
           clear bS
           by_cases bT:1+aF.size+1+aK.size≤9223372036854775807
           ·rw[if_pos bT]at H
            have cT:=eq_true bT
            have cU:=decide_eq_true bT
            try have cV:(9223372036854775807< 1+aF.size+1+aK.size)=False:=eq_false (Nat.not_lt.2 bT)
            by_cases bU:aT.size+(1+aF.size+1+aK.size)≤9223372036854775807
            ·rw[if_pos bU]at H
             have cW:=eq_true bU
             have cX:=decide_eq_true bU
             try have cY:(9223372036854775807< aT.size+(1+aF.size+1+aK.size))=False:=eq_false (Nat.not_lt.2 bU)
             have H':=am H
             clear H
             have bG:0≤(aB:Int):=of_decide_eq_true (by(with_reducible assumption))
             have bH:aB< (aC.length:Int):=of_decide_eq_true (by(with_reducible assumption))
             obtain⟨bV,e169,aO,aP⟩:=at_T46 aW.out aB bG bH
             cases e169
             try replace aO:=(HB.out.cell (World.block_lt_of_cell? w _ aO)).trans aO
             try replace aP:=(HB.out.cell (World.block_lt_of_cell? w _ aP)).trans aP
             replace bG:=eq_true bG
             replace bH:=eq_true bH
             try go_wp2_with (first|((with_reducible refine gate_dst (N:=7) rfl ?_);refine box_event ?hg (N:=7) ?hd (cs:=#[i6 0,i6 0]) (t:=46) ?hr ?_;(case hd=> rfl);(case hg=> rfl);(case hr=> (go_simp;done));intro aE hg bZ hbox hb;have aD:=am (hbox);have cZ:=am (gsz hg HB.out);have a9:=am (gsz hg HB.out);replace HB:=am (below_step (HB.out) hb);have aI:=am ((by rw[hg];exact Nat.ne_of_lt (blk_lt aA.out):aJ≠aE));have aU:=am ((by rw[hg];exact Nat.ne_of_gt (blk_lt aA.out):aE≠aJ));replace aA:=am (blk_below aA.out hb);clear hb hbox hg;have c0:=aU.out;have c1:=aI.out;obtain⟨b0,b1⟩:=bc2 aD.out;obtain⟨b2,b3⟩:=bf2 aD.out))
             have aM:Aside0 (((bZ.setCell ⟨aE,0,none⟩ (i6 ((rd_T46 aC aB).f0))).setCell ⟨aE,1,none⟩ (i6 ((rd_T46 aC aB).f1))).heap[aJ]?=some (.cells #[i6 aG,i6 aH,.slice (some bV) aC.length c0_2] 24 (0,0))):=⟨by refine blk_far ?_ aI.out _;refine blk_far ?_ aI.out _;exact aA.out⟩
             have aN:Aside0 (((bZ.setCell ⟨aE,0,none⟩ (i6 ((rd_T46 aC aB).f0))).setCell ⟨aE,1,none⟩ (i6 ((rd_T46 aC aB).f1))).heap[aE]?=some (.cells #[i6 ((rd_T46 aC aB).f0),i6 ((rd_T46 aC aB).f1)] 46 (0,0))):=⟨by exact bp (bp aD.out 0) 1⟩
             have aV:Aside0 (Below w.heap.size w ((bZ.setCell ⟨aE,0,none⟩ (i6 ((rd_T46 aC aB).f0))).setCell ⟨aE,1,none⟩ (i6 ((rd_T46 aC aB).f1)))):=⟨below_set (below_set HB.out a9.out) a9.out⟩
             clear aA
             clear aD
             clear HB
             generalize ((bZ.setCell ⟨aE,0,none⟩ (i6 ((rd_T46 aC aB).f0))).setCell ⟨aE,1,none⟩ (i6 ((rd_T46 aC aB).f1)))=dD at aM aN aV ⊢
             have aA:=aM
             have aD:=aN
             have HB:=aV
             clear aM aN aV
             have aM:=am (blk_drew aA.out)
             have aN:=am (blk_drew aD.out)
             have aV:=am (below_drew1 HB.out)
             clear aA aD HB
             have aA:=aM
             have aD:=aN
             have HB:=aV
             clear aM aN aV
             refine start_ (n:=12) (S:=fun w'=> w'.cell? ⟨aE,0,none⟩=some (i6 ((rd_T46 aC aB).f0))∧w'.cell? ⟨aE,1,none⟩=some (i6 ((rd_T46 aC aB).f1))) (ds:=[]) (rl [0,12]) (by kernel_rfl) rfl rfl (bc2 aD.out) (fun hHeld=> ?_);refine with_tabW ident_Show.tab8 ident_Show.bits8 (fun HT_ HW_=> ?_)
             generalize dD.drew=dH at aA aD HB hHeld ⊢
             refine pure_ (i:=0) (N:=some 28) (v:=?_) (a':=?_) (rl [1,11]) rfl rfl (any_of HT_.out (by kernel_rfl)) (fun _ _ _ h=> h) (Or.inl ⟨by rfl,?_⟩) ?_ ?_
             rotate_left
             ·intro w'
              go_simp
              with_reducible rfl
             rotate_left
             ·simp only[Act.put,l_a,l_z,l_s,i64_w,i32_w]
              rfl
             refine pure_ (i:=1) (N:=some 29) (v:=?_) (a':=?_) (rl [2,10]) rfl rfl (any_of HT_.out (by kernel_rfl)) (fun _ _ _ h=> h) (Or.inl ⟨by rfl,?_⟩) ?_ ?_
             rotate_left
             ·intro w'
              go_simp
              with_reducible rfl
             rotate_left
             ·simp only[Act.put,l_a,l_z,l_s,i64_w,i32_w]
              rfl
             refine pure_ (i:=6) (N:=some 34) (v:=?_) (a':=?_) (rl [2,4,1,5]) rfl rfl (any_of HT_.out (by kernel_rfl)) (fun _ _ _ h=> h) (Or.inl ⟨by rfl,?_⟩) ?_ ?_
             rotate_left
             ·intro w'
              go_simp
              with_reducible rfl
             rotate_left
             ·simp only[Act.put,l_a,l_z,l_s,i64_w,i32_w]
              rfl
             refine take_ (i:=2) (N:=some 30) (v:=?_) (a':=?_) (rl [3,3,1,5]) rfl rfl (take_ofW HT_.out HW_.out (by kernel_rfl)) (fun _ _ _ h=> h) (Or.inl ⟨by rfl,?_⟩) hHeld ?_ ?_
             rotate_left
             ·rintro w' ⟨s0,s1⟩
              go_simp
              with_reducible rfl
             rotate_left
             ·simp only[Act.put,l_a,l_z,l_s,i64_w,i32_w]
              rfl
             refine take_ (i:=7) (N:=some 35) (v:=?_) (a':=?_) (rl [3,3,2,4]) rfl rfl (take_ofW HT_.out HW_.out (by kernel_rfl)) (fun _ _ _ h=> h) (Or.inl ⟨by rfl,?_⟩) hHeld ?_ ?_
             rotate_left
             ·rintro w' ⟨s0,s1⟩
              go_simp
              with_reducible rfl
             rotate_left
             ·simp only[Act.put,l_a,l_z,l_s,i64_w,i32_w]
              rfl
             refine one_ (i:=3) (N:=some 31) (rl [4,2,2,4]) rfl rfl (one_of HT_.out (by kernel_rfl)) (by decide) (fun K hK=> ?_)
             refine goes_ Tryz.func37 (by kernel_rfl) rfl #[i6 ((rd_T46 aC aB).f0)] (by rfl) rfl rfl (by(try simp only[l_m,l_c,l_n]);rfl) ?_
             with_reducible refine(strconv_Itoa.calls ((rd_T46 aC aB).f0) aF _ ?side1 dB.out).mono ?_
             (case side1=> exact WH.below HWH_.out (HB.out))
             rintro e dI ⟨rfl,hb⟩
             refine⟨_,rfl,?_⟩
             have aM:=am (blk_below aA.out hb)
             have aN:=am (blk_below aD.out hb)
             have aV:=am (below_step (HB.out) hb)
             clear aA aD HB
             have aA:=aM
             have aD:=aN
             have HB:=aV
             clear aM aN aV
             clear hb
             refine hK.out _ _ (bc2 aD.out) (fun hHeld=> ?_)
             clear hK K
             refine norm_ (a':=?_) ?_ ?_
             rotate_left
             ·show Act.put _ (some 31) _=_
              simp only[Act.put,l_a,l_z,l_s,i64_w,i32_w]
              rfl
             refine pure_ (i:=4) (N:=some 32) (v:=?_) (a':=?_) (rl [5,1,2,4]) rfl rfl (any_of HT_.out (by kernel_rfl)) (fun _ _ _ h=> h) (Or.inl ⟨by rfl,?_⟩) ?_ ?_
             rotate_left
             ·intro w'
              go_simp
              with_reducible rfl
             rotate_left
             ·simp only[Act.put,l_a,l_z,l_s,i64_w,i32_w]
              rfl
             refine pure_ (i:=5) (N:=some 33) (v:=?_) (a':=?_) (rl [8,4]) rfl rfl (any_of HT_.out (by kernel_rfl)) (fun _ _ _ h=> h) (Or.inl ⟨by rfl,?_⟩) ?_ ?_
             rotate_left
             ·intro w'
              go_simp
              with_reducible rfl
             rotate_left
             ·simp only[Act.put,l_a,l_z,l_s,i64_w,i32_w]
              rfl
             refine one_ (i:=8) (N:=some 36) (rl [9,3]) rfl rfl (one_of HT_.out (by kernel_rfl)) (by decide) (fun K hK=> ?_)
             refine goes_ Tryz.func37 (by kernel_rfl) rfl #[i6 ((rd_T46 aC aB).f1)] (by rfl) rfl rfl (by(try simp only[l_m,l_c,l_n]);rfl) ?_
             with_reducible refine(strconv_Itoa.calls ((rd_T46 aC aB).f1) aK _ ?side1 dC.out).mono ?_
             (case side1=> exact WH.below HWH_.out (HB.out))
             rintro e dJ ⟨rfl,hb⟩
             refine⟨_,rfl,?_⟩
             have aM:=am (blk_below aA.out hb)
             have aN:=am (blk_below aD.out hb)
             have aV:=am (below_step (HB.out) hb)
             clear aA aD HB
             have aA:=aM
             have aD:=aN
             have HB:=aV
             clear aM aN aV
             clear hb
             refine hK.out _ _ (bc2 aD.out) (fun hHeld=> ?_)
             clear hK K
             refine norm_ (a':=?_) ?_ ?_
             rotate_left
             ·show Act.put _ (some 36) _=_
              simp only[Act.put,l_a,l_z,l_s,i64_w,i32_w]
              rfl
             refine pure_ (i:=9) (N:=some 37) (v:=?_) (a':=?_) (rl [10,2]) rfl rfl (any_of HT_.out (by kernel_rfl)) (fun _ _ _ h=> h) (Or.inl ⟨by rfl,?_⟩) ?_ ?_
             rotate_left
             ·intro w'
              go_simp
              with_reducible rfl
             rotate_left
             ·simp only[Act.put,l_a,l_z,l_s,i64_w,i32_w]
              rfl
             refine pure_ (i:=10) (N:=some 38) (v:=?_) (a':=?_) (rl [11,1]) rfl rfl (any_of HT_.out (by kernel_rfl)) (fun _ _ _ h=> h) (Or.inl ⟨by rfl,?_⟩) ?_ ?_
             rotate_left
             ·intro w'
              go_simp
              with_reducible rfl
             rotate_left
             ·simp only[Act.put,l_a,l_z,l_s,i64_w,i32_w]
              rfl
             refine pure_ (i:=11) (N:=some 5) (v:=?_) (a':=?_) (rl [12]) rfl rfl (any_of HT_.out (by kernel_rfl)) (fun _ _ _ h=> h) (Or.inl ⟨by rfl,?_⟩) ?_ ?_
             rotate_left
             ·intro w'
              go_simp
              with_reducible rfl
             rotate_left
             ·simp only[Act.put,l_a,l_z,l_s,i64_w,i32_w]
              rfl
             refine done_ (done_of HT_.out (by kernel_rfl)) ?_
             try go_wp2
             go_roundg k1
             case measure=> have:=cK.out;omega
             case rel=> exact⟨(aT++((((⟨#[47]⟩:ByteArray)++aF)++(⟨#[64]⟩:ByteArray))++aK)),(wrap64 (aB+1)),(by rfl),(by rfl),H',⟨by have:=cK.out;omega⟩,⟨by exact aA.out⟩,⟨HB.out⟩⟩
            ·rw[if_neg bU]at H
             exact absurd H (by simp)
           ·rw[if_neg bT]at H
            exact absurd H (by simp)
          ·rw[if_neg bR]at H
           exact absurd H (by simp)
         ·rw[if_neg bQ]at H
          exact absurd H (by simp)
        ·rw[if_neg bY]at H
         exact absurd H (by simp)
       ·rw[if_neg bX]at H
        exact absurd H (by simp)
      ·rw[if_neg bJ]at H
       have bO:=decide_eq_false bJ
       clear bJ
       simp only[Option.some.injEq,Prod.mk.injEq]at H
       obtain⟨rfl,rfl⟩:=H
       go_wp2
       go_ret2
       exact⟨by rfl,HB.out⟩
   ·rw[if_neg c7]at H
    exact absurd H (by simp)
  ·rw[if_neg c5]at H
   exact absurd H (by simp)
 ·rw[if_neg c3]at H
  have bK:=beq_eq_false_iff_ne.mpr c3
  have bL:=bne_iff_ne.mpr c3
  simp only[Option.some.injEq,Prod.mk.injEq]at H
  obtain⟨rfl,rfl⟩:=H
  go_enter Tryz.func19,Tryz.ntmps19
  go_wp2_with (first|((with_reducible refine gate_dst (N:=1) rfl ?_);refine box_event ?hg (N:=1) ?hd (cs:=#[i6 aG,i6 aH,.slice aQ aC.length c0_2]) (t:=24) ?hr ?_;(case hd=> rfl);(case hg=> rfl);(case hr=> (go_simp;done));intro aJ hg dK hbox hb;have aA:=am (hbox);have bM:=am (gsz hg HB.out);have bN:=am (gsz hg HB.out);replace HB:=am (below_step (HB.out) hb);clear hb hbox hg;obtain⟨b4,b5,b6⟩:=bc3 aA.out;obtain⟨b7,b8,b9⟩:=bf3 aA.out)|((with_reducible refine gate_callee (f:=41) rfl ?_);refine goesL_ (some 9) rfl rfl Tryz.func41 (by kernel_rfl) rfl #[.agg #[i6 aG,i6 aH,.slice aQ aC.length c0_2]] rfl (by(try simp only[l_m,l_c,l_n]);rfl) ?_;(with_reducible refine(ident_Check.calls aG aH _ _ aC aS _ ?side1 ?side2 A2.out).mono ?_);(case side1=> exact(Kd.C_below aW.out HB.out));(case side2=> exact a8.out);rintro e dL ⟨rfl,hb⟩;refine⟨_,rfl,?_⟩;replace aA:=am (blk_below aA.out hb);replace HB:=am (below_step (HB.out) hb);clear hb))
  go_ret2
  exact⟨by rfl,HB.out⟩

/-! ### pack_Text: function 20 -/
def pack_Text.f (k:Nat) (a0:ByteArray):Option (ByteArray):=(pack_Number.f k (IntKind.u64.wrap ((a0.size:Int)))).bind fun aA=> (if aA.size+a0.size≤9223372036854775807 then(some (aA++a0))else(none))
theorem pack_Text.mono:∀ a0 k,LeO (pack_Text.f k a0) (pack_Text.f (k+1) a0):=by
 intro a0 k
 unfold pack_Text.f
 repeat' with_reducible first|apply pack_Number.mono|apply LeO.refl|apply LeO.none|refine LeO.ite ?_ ?_|refine LeO.bind ?_ (fun _=> ?_)
set_option maxHeartbeats 8000000 in
set_option maxRecDepth 100000 in
theorem pack_Text.calls (k:Nat) (a0:ByteArray) (r:ByteArray) (w:World) (h:pack_Text.f k a0=some r) :
  Calls Tryz.prog 20 #[.string a0] w fun e w'=> e=.returned (.string r)∧Below w.heap.size w w':=by
 have HB:=am (Below.refl w.heap.size w)
 unfold pack_Text.f at h
 have H:=h
 clear h
 obtain⟨aA,aB,H⟩:=Option.bind_eq_some_iff.mp H
 try dsimp only at H
 have A2:=am aB
 clear aB
 by_cases c3:aA.size+a0.size≤9223372036854775807
 ·rw[if_pos c3]at H
  have aC:=eq_true c3
  have aD:=decide_eq_true c3
  try have aE:(9223372036854775807< aA.size+a0.size)=False:=eq_false (Nat.not_lt.2 c3)
  clear c3
  obtain rfl:=Option.some.inj H
  go_enter Tryz.func20,Tryz.ntmps20
  go_wp2_with (first|((with_reducible refine gate_callee (f:=18) rfl ?_);refine goesL_ (some 6) rfl rfl Tryz.func18 (by kernel_rfl) rfl #[.int .u64 (IntKind.u64.wrap ((a0.size:Int)))] rfl (by(try simp only[l_m,l_c,l_n]);rfl) ?_;(with_reducible refine(pack_Number.calls k (IntKind.u64.wrap ((a0.size:Int))) aA _ A2.out).mono ?_);rintro e w4 ⟨rfl,hb⟩;refine⟨_,rfl,?_⟩;replace HB:=am (below_step (HB.out) hb);clear hb))
  go_ret
  exact⟨by rfl,HB.out⟩
 ·rw[if_neg c3]at H
  exact absurd H (by simp)

/-! ### seal_eight: function 42 -/
def seal_eight.cs (n:Int) (i:Nat):List Value:=(List.range 8).map fun(j:Nat)=> Value.int .u8 (if j< i then n / 256 ^ j % 256 else 0)
theorem seal_eight.cs_set (n:Int) (i:Nat) (h:i< 8):(seal_eight.cs n i).set i (.int .u8 (n / 256 ^ i % 256))=seal_eight.cs n (i+1):=by
 unfold seal_eight.cs
 apply List.ext_getElem?
 intro j
 by_cases hj:j< 8
 ·by_cases e:i=j
  ·subst e
   rw[List.getElem?_set_self (by simp;omega),List.getElem?_map,List.getElem?_range (by omega)]
   simp
  ·rw[List.getElem?_set_ne e,List.getElem?_map,List.getElem?_map,List.getElem?_range hj]
   simp only[Option.map_some]
   have:(j< i+1)=(j< i):=by rw[eq_iff_iff];omega
   simp[this]
 ·rw[List.getElem?_eq_none (by simp;omega),List.getElem?_eq_none (by simp;omega)]
theorem seal_eight.cs_get (n:Int) (m i:Nat) (h:i< 8):(seal_eight.cs n m).toArray[i]?=some (.int .u8 (if i< m then n / 256 ^ i % 256 else 0)):=by
 rw[List.getElem?_toArray]
 unfold seal_eight.cs
 rw[List.getElem?_map,List.getElem?_range h]
 rfl
theorem seal_eight.pw (i:Nat):(2:Int) ^ (8 * i)=256 ^ i:=by rw[Int.pow_mul];rfl
def seal_eight.l (n:Int):List Int:=(List.range 8).map fun(j:Nat)=> n / 256 ^ j % 256
theorem seal_eight.cs_l (n:Int):seal_eight.cs n 8=(seal_eight.l n).map (Value.int .u8):=by
 unfold seal_eight.cs seal_eight.l
 rw[List.map_map]
 apply List.map_congr_left
 intro j hj
 rw[List.mem_range]at hj
 simp[hj]
def seal_eight.f (a0:Int):Option ByteArray:=if 0≤a0∧a0< 18446744073709551616 then some (strOfNums (seal_eight.l a0))else none
set_option maxHeartbeats 4000000 in
set_option maxRecDepth 100000 in
theorem seal_eight.calls (a0:Int) (r:ByteArray) (w:World) (h:seal_eight.f a0=some r):Calls Tryz.prog 42 #[.int .u64 a0] w fun e w'=> e=.returned (.string r)∧Below w.heap.size w w':=by
 unfold seal_eight.f at h
 by_cases hb:0≤a0∧a0< 18446744073709551616
 case neg=> rw[if_neg hb]at h;cases h
 rw[if_pos hb]at h
 obtain rfl:=Option.some.inj h
 have HB:=am (Below.refl w.heap.size w)
 obtain⟨hb0,hb1⟩:=hb
 have HN:=am hb1
 clear h hb1
 go_enter Tryz.func42,Tryz.ntmps42
 go_wp2_with (first|((with_reducible refine gate_dst (N:=3) rfl ?_);refine box_event ?hg (N:=3) ?hd (cs:=#[.int .u8 0,.int .u8 0,.int .u8 0,.int .u8 0,.int .u8 0,.int .u8 0,.int .u8 0,.int .u8 0]) (t:=104) ?hr ?_;(case hd=> rfl);(case hg=> rfl);(case hr=> (go_simp;done));intro aB hg aV hbox hb;have aS:=am (below_step (HB.out) hb);have aT:=am (gsz hg HB.out);have aA:=am hbox;clear HB;have HB:=aS;have aU:=aT;clear aS aT;clear hb hbox hg;obtain⟨aC,aD,aE,aF,aG,aH,aI,aJ,aK,aL,aM,aN,aO,aP,aQ,aR⟩:=be8 aA.out))
 clear aC aD aE aF aG aH aI aJ aK aL aM aN aO aP aQ aR
 go_loopg [5] 8 (fun kq v5 w'=> ∃ (i:Nat),v5=i6 (i:Int)∧Aside0 (kq=8 - i)∧Aside0 (i≤8)∧Aside0 (w'.heap[aB]?=some (.cells (seal_eight.cs a0 i).toArray 104 (0,0)))∧Aside0 (Below w.heap.size w w'))
 case atStart=> exact⟨0,rfl,⟨rfl⟩,⟨Nat.zero_le _⟩,⟨aA.out⟩,⟨HB.out⟩⟩
 case round=>
  clear aA HB
  obtain⟨i,rfl,HK,HI,aA,HB⟩:=hrel
  by_cases hlt:i< 8
  ·have d1:decide ((i:Int)< 8)=true:=decide_eq_true (by omega)
   have d2:(0≤(i:Int))=True:=eq_true (by omega)
   have d3:((i:Int)< 8)=True:=eq_true (by omega)
   have hm:wr.cell? ⟨aB,i,none⟩=some (.int .u8 (if i< i then a0 / 256 ^ i % 256 else 0)):=(blk_cell aA.out i).trans (seal_eight.cs_get a0 i i hlt)
   have hmf:=blk_frozen aA.out i
   have hset:=seal_eight.cs_set a0 i hlt
   have HLT:=am hlt
   have HSET:=am hset
   clear hset
   go_wp2
   obtain⟨k,hk⟩:∃ k,8 - i=k+1:=⟨8 - i - 1,by have:=HLT.out;omega⟩
   go_roundg k
   case measure=> have:=HK.out;omega
   case rel=> exact⟨i+1,rfl,⟨by omega⟩,⟨by have:=HLT.out;omega⟩,⟨by rw[← HSET.out,← seal_eight.pw];exact blk_put aA.out _ _ (by simp)⟩,⟨below_set HB.out aU.out⟩⟩
  ·have d1:decide ((i:Int)< 8)=false:=decide_eq_false (by omega)
   have e8:i=8:=by have:=HI.out;omega
   subst e8
   have hlen:(seal_eight.l a0).length=8:=by simp[seal_eight.l]
   have hs:(convert 81 9 (.slice (some ⟨aB,0,none⟩) 8 8)).run Tryz.prog wr=.ok (.string (strOfNums (seal_eight.l a0))) wr:=by
    refine string_of_reads Tryz.underlying81 Tryz.underlying5 Tryz.underlying9 ⟨hlen,by decide,fun _=> ⟨_,rfl,fun j hj=> ?_⟩⟩
    have hj':=hj
    have hg:=blk_cell aA.out j
    rw[seal_eight.cs_l]at hg
    have e:(Addr.add ⟨aB,0,none⟩ j)=⟨aB,j,none⟩:=by unfold Addr.add;split<;> simp_all
    rw[e,hg,List.getElem?_toArray,List.getElem?_map,List.getElem?_eq_getElem (by omega),List.getD_eq_getElem?_getD,List.getElem?_eq_getElem (by omega)]
    rfl
   clear hlen
   go_wp2
   go_ret
   exact⟨rfl,(HB.out)⟩

/-! ### seal_Sum: function 43 -/
def seal_Sum.tab:List Int:=[0,9051005139383707209,18102010278767414418,9704381199536204507,7257036000092981153,1814259000023245288,11493583972846619443,16292555063049989498,14514072000185962306,13040162471224305931,3628518000046490576,5746791986423309721,12527462061959317731,15006518869663149738,6263731030979658865,3131865515489829432]
def seal_Sum.nib (x:Int):Int:=Go.bits .xor .u64 (x / 16) (seal_Sum.tab.getD (Go.bits .and .u64 x 15).toNat 0)
def seal_Sum.stepB (x b:Int):Int:=seal_Sum.nib (seal_Sum.nib (Go.bits .xor .u64 x b))
def seal_Sum.crcS (x:Int) (l:List UInt8):Int:=l.foldl (fun x b=> seal_Sum.stepB x (b.toNat:Int)) x
def seal_Sum.crcs (x:Int) (l:List ByteArray):Int:=l.foldl (fun x s=> seal_Sum.crcS x s.data.toList) x
set_option maxHeartbeats 4000000 in
set_option maxRecDepth 100000 in
theorem seal_Sum.table_calls (w:World):Calls Tryz.prog 63 #[] w fun e w'=> e=.returned (.agg #[.int .u64 0,.int .u64 9051005139383707209,.int .u64 18102010278767414418,.int .u64 9704381199536204507,.int .u64 7257036000092981153,.int .u64 1814259000023245288,.int .u64 11493583972846619443,.int .u64 16292555063049989498,.int .u64 14514072000185962306,.int .u64 13040162471224305931,.int .u64 3628518000046490576,.int .u64 5746791986423309721,.int .u64 12527462061959317731,.int .u64 15006518869663149738,.int .u64 6263731030979658865,.int .u64 3131865515489829432])∧Below w.heap.size w w':=by
 have HB:=am (Below.refl w.heap.size w)
 go_enter Tryz.func63,Tryz.ntmps63
 go_wp2_with (first|((with_reducible refine gate_dst (N:=0) rfl ?_);refine box_event ?hg (N:=0) ?hd (cs:=#[.int .u64 0,.int .u64 0,.int .u64 0,.int .u64 0,.int .u64 0,.int .u64 0,.int .u64 0,.int .u64 0,.int .u64 0,.int .u64 0,.int .u64 0,.int .u64 0,.int .u64 0,.int .u64 0,.int .u64 0,.int .u64 0]) (t:=106) ?hr ?_;(case hd=> rfl);(case hg=> rfl);(case hr=> (go_simp;done));intro aB hg b9 hbox hb;have aP:=am (below_step (HB.out) hb);have b7:=am (gsz hg HB.out);have b6:=am hbox;clear HB;have HB:=aP;have cA:=b7;clear aP b7;clear hb hbox hg;obtain⟨bM,bN,bO,bP,bQ,bR,bS,bT,bU,bV,bW,bX,bY,bZ,b0,b1,b2,b3,b4,b5,aQ,aR,aS,aT,aU,aV,aW,aX,aY,aZ,a0,a1⟩:=be16 b6.out)|((with_reducible refine gate_store (t:=106) (p:=0) rfl ?_);refine store_event (t:=106) (p:=0) (v:=?vz_2) (w1:=((((((((((((((((b9.setCell ⟨aB,0,none⟩ (.int .u64 0)).setCell ⟨aB,1,none⟩ (.int .u64 9051005139383707209)).setCell ⟨aB,2,none⟩ (.int .u64 18102010278767414418)).setCell ⟨aB,3,none⟩ (.int .u64 9704381199536204507)).setCell ⟨aB,4,none⟩ (.int .u64 7257036000092981153)).setCell ⟨aB,5,none⟩ (.int .u64 1814259000023245288)).setCell ⟨aB,6,none⟩ (.int .u64 11493583972846619443)).setCell ⟨aB,7,none⟩ (.int .u64 16292555063049989498)).setCell ⟨aB,8,none⟩ (.int .u64 14514072000185962306)).setCell ⟨aB,9,none⟩ (.int .u64 13040162471224305931)).setCell ⟨aB,10,none⟩ (.int .u64 3628518000046490576)).setCell ⟨aB,11,none⟩ (.int .u64 5746791986423309721)).setCell ⟨aB,12,none⟩ (.int .u64 12527462061959317731)).setCell ⟨aB,13,none⟩ (.int .u64 15006518869663149738)).setCell ⟨aB,14,none⟩ (.int .u64 6263731030979658865)).setCell ⟨aB,15,none⟩ (.int .u64 3131865515489829432))) ?hg ?ho ?hn ?hr ?_;(case ho=> rfl);(case hg=> rfl);(case hn=> rfl);(case hr=> (go_simp;done));intro ws0 hw;have aP:Aside0 (Below w.heap.size w ws0):=⟨by rw[hw];exact(bs16 HB.out cA.out)⟩;have b8:Aside0 (ws0.heap[aB]?=some (.cells #[.int .u64 0,.int .u64 9051005139383707209,.int .u64 18102010278767414418,.int .u64 9704381199536204507,.int .u64 7257036000092981153,.int .u64 1814259000023245288,.int .u64 11493583972846619443,.int .u64 16292555063049989498,.int .u64 14514072000185962306,.int .u64 13040162471224305931,.int .u64 3628518000046490576,.int .u64 5746791986423309721,.int .u64 12527462061959317731,.int .u64 15006518869663149738,.int .u64 6263731030979658865,.int .u64 3131865515489829432] 106 (0,0))):=⟨by rw[hw];exact(blk_put (cs':=#[.int .u64 0,.int .u64 9051005139383707209,.int .u64 18102010278767414418,.int .u64 9704381199536204507,.int .u64 7257036000092981153,.int .u64 1814259000023245288,.int .u64 11493583972846619443,.int .u64 16292555063049989498,.int .u64 14514072000185962306,.int .u64 13040162471224305931,.int .u64 3628518000046490576,.int .u64 5746791986423309721,.int .u64 12527462061959317731,.int .u64 15006518869663149738,.int .u64 6263731030979658865,.int .u64 3131865515489829432]) (blk_put (cs':=#[.int .u64 0,.int .u64 9051005139383707209,.int .u64 18102010278767414418,.int .u64 9704381199536204507,.int .u64 7257036000092981153,.int .u64 1814259000023245288,.int .u64 11493583972846619443,.int .u64 16292555063049989498,.int .u64 14514072000185962306,.int .u64 13040162471224305931,.int .u64 3628518000046490576,.int .u64 5746791986423309721,.int .u64 12527462061959317731,.int .u64 15006518869663149738,.int .u64 6263731030979658865,.int .u64 0]) (blk_put (cs':=#[.int .u64 0,.int .u64 9051005139383707209,.int .u64 18102010278767414418,.int .u64 9704381199536204507,.int .u64 7257036000092981153,.int .u64 1814259000023245288,.int .u64 11493583972846619443,.int .u64 16292555063049989498,.int .u64 14514072000185962306,.int .u64 13040162471224305931,.int .u64 3628518000046490576,.int .u64 5746791986423309721,.int .u64 12527462061959317731,.int .u64 15006518869663149738,.int .u64 0,.int .u64 0]) (blk_put (cs':=#[.int .u64 0,.int .u64 9051005139383707209,.int .u64 18102010278767414418,.int .u64 9704381199536204507,.int .u64 7257036000092981153,.int .u64 1814259000023245288,.int .u64 11493583972846619443,.int .u64 16292555063049989498,.int .u64 14514072000185962306,.int .u64 13040162471224305931,.int .u64 3628518000046490576,.int .u64 5746791986423309721,.int .u64 12527462061959317731,.int .u64 0,.int .u64 0,.int .u64 0]) (blk_put (cs':=#[.int .u64 0,.int .u64 9051005139383707209,.int .u64 18102010278767414418,.int .u64 9704381199536204507,.int .u64 7257036000092981153,.int .u64 1814259000023245288,.int .u64 11493583972846619443,.int .u64 16292555063049989498,.int .u64 14514072000185962306,.int .u64 13040162471224305931,.int .u64 3628518000046490576,.int .u64 5746791986423309721,.int .u64 0,.int .u64 0,.int .u64 0,.int .u64 0]) (blk_put (cs':=#[.int .u64 0,.int .u64 9051005139383707209,.int .u64 18102010278767414418,.int .u64 9704381199536204507,.int .u64 7257036000092981153,.int .u64 1814259000023245288,.int .u64 11493583972846619443,.int .u64 16292555063049989498,.int .u64 14514072000185962306,.int .u64 13040162471224305931,.int .u64 3628518000046490576,.int .u64 0,.int .u64 0,.int .u64 0,.int .u64 0,.int .u64 0]) (blk_put (cs':=#[.int .u64 0,.int .u64 9051005139383707209,.int .u64 18102010278767414418,.int .u64 9704381199536204507,.int .u64 7257036000092981153,.int .u64 1814259000023245288,.int .u64 11493583972846619443,.int .u64 16292555063049989498,.int .u64 14514072000185962306,.int .u64 13040162471224305931,.int .u64 0,.int .u64 0,.int .u64 0,.int .u64 0,.int .u64 0,.int .u64 0]) (blk_put (cs':=#[.int .u64 0,.int .u64 9051005139383707209,.int .u64 18102010278767414418,.int .u64 9704381199536204507,.int .u64 7257036000092981153,.int .u64 1814259000023245288,.int .u64 11493583972846619443,.int .u64 16292555063049989498,.int .u64 14514072000185962306,.int .u64 0,.int .u64 0,.int .u64 0,.int .u64 0,.int .u64 0,.int .u64 0,.int .u64 0]) (blk_put (cs':=#[.int .u64 0,.int .u64 9051005139383707209,.int .u64 18102010278767414418,.int .u64 9704381199536204507,.int .u64 7257036000092981153,.int .u64 1814259000023245288,.int .u64 11493583972846619443,.int .u64 16292555063049989498,.int .u64 0,.int .u64 0,.int .u64 0,.int .u64 0,.int .u64 0,.int .u64 0,.int .u64 0,.int .u64 0]) (blk_put (cs':=#[.int .u64 0,.int .u64 9051005139383707209,.int .u64 18102010278767414418,.int .u64 9704381199536204507,.int .u64 7257036000092981153,.int .u64 1814259000023245288,.int .u64 11493583972846619443,.int .u64 0,.int .u64 0,.int .u64 0,.int .u64 0,.int .u64 0,.int .u64 0,.int .u64 0,.int .u64 0,.int .u64 0]) (blk_put (cs':=#[.int .u64 0,.int .u64 9051005139383707209,.int .u64 18102010278767414418,.int .u64 9704381199536204507,.int .u64 7257036000092981153,.int .u64 1814259000023245288,.int .u64 0,.int .u64 0,.int .u64 0,.int .u64 0,.int .u64 0,.int .u64 0,.int .u64 0,.int .u64 0,.int .u64 0,.int .u64 0]) (blk_put (cs':=#[.int .u64 0,.int .u64 9051005139383707209,.int .u64 18102010278767414418,.int .u64 9704381199536204507,.int .u64 7257036000092981153,.int .u64 0,.int .u64 0,.int .u64 0,.int .u64 0,.int .u64 0,.int .u64 0,.int .u64 0,.int .u64 0,.int .u64 0,.int .u64 0,.int .u64 0]) (blk_put (cs':=#[.int .u64 0,.int .u64 9051005139383707209,.int .u64 18102010278767414418,.int .u64 9704381199536204507,.int .u64 0,.int .u64 0,.int .u64 0,.int .u64 0,.int .u64 0,.int .u64 0,.int .u64 0,.int .u64 0,.int .u64 0,.int .u64 0,.int .u64 0,.int .u64 0]) (blk_put (cs':=#[.int .u64 0,.int .u64 9051005139383707209,.int .u64 18102010278767414418,.int .u64 0,.int .u64 0,.int .u64 0,.int .u64 0,.int .u64 0,.int .u64 0,.int .u64 0,.int .u64 0,.int .u64 0,.int .u64 0,.int .u64 0,.int .u64 0,.int .u64 0]) (blk_put (cs':=#[.int .u64 0,.int .u64 9051005139383707209,.int .u64 0,.int .u64 0,.int .u64 0,.int .u64 0,.int .u64 0,.int .u64 0,.int .u64 0,.int .u64 0,.int .u64 0,.int .u64 0,.int .u64 0,.int .u64 0,.int .u64 0,.int .u64 0]) (blk_put (cs':=#[.int .u64 0,.int .u64 0,.int .u64 0,.int .u64 0,.int .u64 0,.int .u64 0,.int .u64 0,.int .u64 0,.int .u64 0,.int .u64 0,.int .u64 0,.int .u64 0,.int .u64 0,.int .u64 0,.int .u64 0,.int .u64 0]) b6.out 0 (.int .u64 0) rfl) 1 (.int .u64 9051005139383707209) rfl) 2 (.int .u64 18102010278767414418) rfl) 3 (.int .u64 9704381199536204507) rfl) 4 (.int .u64 7257036000092981153) rfl) 5 (.int .u64 1814259000023245288) rfl) 6 (.int .u64 11493583972846619443) rfl) 7 (.int .u64 16292555063049989498) rfl) 8 (.int .u64 14514072000185962306) rfl) 9 (.int .u64 13040162471224305931) rfl) 10 (.int .u64 3628518000046490576) rfl) 11 (.int .u64 5746791986423309721) rfl) 12 (.int .u64 12527462061959317731) rfl) 13 (.int .u64 15006518869663149738) rfl) 14 (.int .u64 6263731030979658865) rfl) 15 (.int .u64 3131865515489829432) rfl)⟩;clear hw HB;have HB:=aP;clear b6 bM bN bO bP bQ bR bS bT bU bV bW bX bY bZ b0 b1 b2 b3 b4 b5 aQ aR aS aT aU aV aW aX aY aZ a0 a1;have b6:=b8;clear aP b8;obtain⟨bM,bN,bO,bP,bQ,bR,bS,bT,bU,bV,bW,bX,bY,bZ,b0,b1,b2,b3,b4,b5,aQ,aR,aS,aT,aU,aV,aW,aX,aY,aZ,a0,a1⟩:=be16 b6.out))
 exact bodyPost_ret (results_cell_row rfl _ _ aB 106 _ (0,0) _ rfl b6.out Tryz.underlying106 rfl (by kernel_rfl)) rfl ⟨rfl,(HB.out)⟩
theorem seal_Sum.tab_arr:(#[.int .u64 0,.int .u64 9051005139383707209,.int .u64 18102010278767414418,.int .u64 9704381199536204507,.int .u64 7257036000092981153,.int .u64 1814259000023245288,.int .u64 11493583972846619443,.int .u64 16292555063049989498,.int .u64 14514072000185962306,.int .u64 13040162471224305931,.int .u64 3628518000046490576,.int .u64 5746791986423309721,.int .u64 12527462061959317731,.int .u64 15006518869663149738,.int .u64 6263731030979658865,.int .u64 3131865515489829432]:Array Value)=(seal_Sum.tab.map (Value.int .u64)).toArray:=rfl
theorem seal_Sum.tab_get (i:Nat) (h:i< 16):(seal_Sum.tab.map (Value.int .u64)).toArray[i]?=some (.int .u64 (seal_Sum.tab.getD i 0)):=by
 have hl:i< seal_Sum.tab.length:=h
 rw[List.getElem?_toArray,List.getElem?_map,List.getElem?_eq_getElem hl,List.getD_eq_getElem?_getD,List.getElem?_eq_getElem hl]
 rfl
theorem seal_Sum.w64 (x:Int):IntKind.u64.wrap x=x % 18446744073709551616:=by simp[IntKind.wrap,IntKind.signed,IntKind.bits]
theorem seal_Sum.xor_rng (a b:Int) (ha:0≤a∧a< 18446744073709551616) (hb:0≤b∧b< 18446744073709551616):0≤bits .xor .u64 a b∧bits .xor .u64 a b< 18446744073709551616:=by
 obtain⟨m,rfl⟩:=Int.eq_ofNat_of_zero_le ha.1
 obtain⟨n,rfl⟩:=Int.eq_ofNat_of_zero_le hb.1
 have h1:m< 2 ^ 64:=by omega
 have h2:n< 2 ^ 64:=by omega
 have h3:=Nat.xor_lt_two_pow h1 h2
 rw[bits_xor_u64_nat m n (by omega) (by omega)]
 omega
theorem seal_Sum.and15 (x:Int) (h:0≤x∧x< 18446744073709551616):∃ i:Nat,i< 16∧bits .and .u64 x 15=(i:Int):=by
 obtain⟨m,rfl⟩:=Int.eq_ofNat_of_zero_le h.1
 refine⟨m &&& 15,?_,bits_and_u64_nat m 15 (by omega) (by omega)⟩
 have:m &&& 15≤15:=Nat.and_le_right
 omega
theorem seal_Sum.tab_rng:∀ i,i< 16→0≤seal_Sum.tab.getD i 0∧seal_Sum.tab.getD i 0< 18446744073709551616:=by decide
def seal_Sum.f (l0:List ByteArray):Option Int:=if(∀ s ∈ l0,s.size≤9223372036854775807)then some (Go.bits .xor .u64 18446744073709551615 (seal_Sum.crcs 18446744073709551615 l0))else none
set_option maxHeartbeats 8000000 in
set_option maxRecDepth 100000 in
theorem seal_Sum.calls (A0:Option Addr) (c0:Nat) (l0:List ByteArray) (r:Int) (w:World) (hr0:Kd.C Kd.string w A0 l0.length l0) (hc0:l0.length≤c0) (h:seal_Sum.f l0=some r):Calls Tryz.prog 43 #[.slice A0 l0.length c0] w fun e w'=> e=.returned (.int .u64 r)∧Below w.heap.size w w':=by
 have HR:=am hr0
 have HC:=am hc0
 have hl:l0.length≤9223372036854775807:=hr0.2.1
 have HL:=am hl
 clear hr0 hc0 hl
 unfold seal_Sum.f at h
 by_cases hm:∀ s ∈ l0,s.size≤9223372036854775807
 case neg=> rw[if_neg hm]at h;cases h
 rw[if_pos hm]at h
 obtain rfl:=Option.some.inj h
 have HM:=am hm
 clear h hm
 obtain⟨R,hR⟩:∃ R,R=seal_Sum.crcs 18446744073709551615 l0:=⟨_,rfl⟩
 rw[← hR]
 have HX:=am hR
 clear hR
 have HB:=am (Below.refl w.heap.size w)
 go_enter Tryz.func43,Tryz.ntmps43
 go_wp2_with (first|(go_at_call 63;refine(seal_Sum.table_calls _).mono ?_;rintro e cE ⟨rfl,hb⟩;replace HB:=am (below_step (HB.out) hb);clear hb)|((with_reducible refine gate_dst (N:=3) rfl ?_);refine box_event ?hg (N:=3) ?hd (cs:=#[.int .u64 0,.int .u64 0,.int .u64 0,.int .u64 0,.int .u64 0,.int .u64 0,.int .u64 0,.int .u64 0,.int .u64 0,.int .u64 0,.int .u64 0,.int .u64 0,.int .u64 0,.int .u64 0,.int .u64 0,.int .u64 0]) (t:=106) ?hr ?_;(case hd=> rfl);(case hg=> rfl);(case hr=> (go_simp;done));intro aA hg cB hbox hb;have aP:=am (below_step (HB.out) hb);have b7:=am (gsz hg HB.out);have aC:=am hbox;clear HB;have HB:=aP;have cC:=b7;clear aP b7;clear hb hbox hg;obtain⟨a2,a3,a4,a5,a6,a7,a8,a9,bA,bB,bC,bD,bE,bF,bG,bH,bI,bJ,bK,bL,aD,aE,aF,aG,aH,aI,aJ,aK,aL,aM,aN,aO⟩:=be16 aC.out)|((with_reducible refine gate_store (t:=106) (p:=3) rfl ?_);refine store_event (t:=106) (p:=3) (v:=?vz_3) (w1:=((((((((((((((((cB.setCell ⟨aA,0,none⟩ (.int .u64 0)).setCell ⟨aA,1,none⟩ (.int .u64 9051005139383707209)).setCell ⟨aA,2,none⟩ (.int .u64 18102010278767414418)).setCell ⟨aA,3,none⟩ (.int .u64 9704381199536204507)).setCell ⟨aA,4,none⟩ (.int .u64 7257036000092981153)).setCell ⟨aA,5,none⟩ (.int .u64 1814259000023245288)).setCell ⟨aA,6,none⟩ (.int .u64 11493583972846619443)).setCell ⟨aA,7,none⟩ (.int .u64 16292555063049989498)).setCell ⟨aA,8,none⟩ (.int .u64 14514072000185962306)).setCell ⟨aA,9,none⟩ (.int .u64 13040162471224305931)).setCell ⟨aA,10,none⟩ (.int .u64 3628518000046490576)).setCell ⟨aA,11,none⟩ (.int .u64 5746791986423309721)).setCell ⟨aA,12,none⟩ (.int .u64 12527462061959317731)).setCell ⟨aA,13,none⟩ (.int .u64 15006518869663149738)).setCell ⟨aA,14,none⟩ (.int .u64 6263731030979658865)).setCell ⟨aA,15,none⟩ (.int .u64 3131865515489829432))) ?hg ?ho ?hn ?hr ?_;(case ho=> rfl);(case hg=> rfl);(case hn=> rfl);(case hr=> (go_simp;done));intro ws3 hw;have aP:Aside0 (Below w.heap.size w ws3):=⟨by rw[hw];exact(bs16 HB.out cC.out)⟩;have b8:Aside0 (ws3.heap[aA]?=some (.cells #[.int .u64 0,.int .u64 9051005139383707209,.int .u64 18102010278767414418,.int .u64 9704381199536204507,.int .u64 7257036000092981153,.int .u64 1814259000023245288,.int .u64 11493583972846619443,.int .u64 16292555063049989498,.int .u64 14514072000185962306,.int .u64 13040162471224305931,.int .u64 3628518000046490576,.int .u64 5746791986423309721,.int .u64 12527462061959317731,.int .u64 15006518869663149738,.int .u64 6263731030979658865,.int .u64 3131865515489829432] 106 (0,0))):=⟨by rw[hw];exact(blk_put (cs':=#[.int .u64 0,.int .u64 9051005139383707209,.int .u64 18102010278767414418,.int .u64 9704381199536204507,.int .u64 7257036000092981153,.int .u64 1814259000023245288,.int .u64 11493583972846619443,.int .u64 16292555063049989498,.int .u64 14514072000185962306,.int .u64 13040162471224305931,.int .u64 3628518000046490576,.int .u64 5746791986423309721,.int .u64 12527462061959317731,.int .u64 15006518869663149738,.int .u64 6263731030979658865,.int .u64 3131865515489829432]) (blk_put (cs':=#[.int .u64 0,.int .u64 9051005139383707209,.int .u64 18102010278767414418,.int .u64 9704381199536204507,.int .u64 7257036000092981153,.int .u64 1814259000023245288,.int .u64 11493583972846619443,.int .u64 16292555063049989498,.int .u64 14514072000185962306,.int .u64 13040162471224305931,.int .u64 3628518000046490576,.int .u64 5746791986423309721,.int .u64 12527462061959317731,.int .u64 15006518869663149738,.int .u64 6263731030979658865,.int .u64 0]) (blk_put (cs':=#[.int .u64 0,.int .u64 9051005139383707209,.int .u64 18102010278767414418,.int .u64 9704381199536204507,.int .u64 7257036000092981153,.int .u64 1814259000023245288,.int .u64 11493583972846619443,.int .u64 16292555063049989498,.int .u64 14514072000185962306,.int .u64 13040162471224305931,.int .u64 3628518000046490576,.int .u64 5746791986423309721,.int .u64 12527462061959317731,.int .u64 15006518869663149738,.int .u64 0,.int .u64 0]) (blk_put (cs':=#[.int .u64 0,.int .u64 9051005139383707209,.int .u64 18102010278767414418,.int .u64 9704381199536204507,.int .u64 7257036000092981153,.int .u64 1814259000023245288,.int .u64 11493583972846619443,.int .u64 16292555063049989498,.int .u64 14514072000185962306,.int .u64 13040162471224305931,.int .u64 3628518000046490576,.int .u64 5746791986423309721,.int .u64 12527462061959317731,.int .u64 0,.int .u64 0,.int .u64 0]) (blk_put (cs':=#[.int .u64 0,.int .u64 9051005139383707209,.int .u64 18102010278767414418,.int .u64 9704381199536204507,.int .u64 7257036000092981153,.int .u64 1814259000023245288,.int .u64 11493583972846619443,.int .u64 16292555063049989498,.int .u64 14514072000185962306,.int .u64 13040162471224305931,.int .u64 3628518000046490576,.int .u64 5746791986423309721,.int .u64 0,.int .u64 0,.int .u64 0,.int .u64 0]) (blk_put (cs':=#[.int .u64 0,.int .u64 9051005139383707209,.int .u64 18102010278767414418,.int .u64 9704381199536204507,.int .u64 7257036000092981153,.int .u64 1814259000023245288,.int .u64 11493583972846619443,.int .u64 16292555063049989498,.int .u64 14514072000185962306,.int .u64 13040162471224305931,.int .u64 3628518000046490576,.int .u64 0,.int .u64 0,.int .u64 0,.int .u64 0,.int .u64 0]) (blk_put (cs':=#[.int .u64 0,.int .u64 9051005139383707209,.int .u64 18102010278767414418,.int .u64 9704381199536204507,.int .u64 7257036000092981153,.int .u64 1814259000023245288,.int .u64 11493583972846619443,.int .u64 16292555063049989498,.int .u64 14514072000185962306,.int .u64 13040162471224305931,.int .u64 0,.int .u64 0,.int .u64 0,.int .u64 0,.int .u64 0,.int .u64 0]) (blk_put (cs':=#[.int .u64 0,.int .u64 9051005139383707209,.int .u64 18102010278767414418,.int .u64 9704381199536204507,.int .u64 7257036000092981153,.int .u64 1814259000023245288,.int .u64 11493583972846619443,.int .u64 16292555063049989498,.int .u64 14514072000185962306,.int .u64 0,.int .u64 0,.int .u64 0,.int .u64 0,.int .u64 0,.int .u64 0,.int .u64 0]) (blk_put (cs':=#[.int .u64 0,.int .u64 9051005139383707209,.int .u64 18102010278767414418,.int .u64 9704381199536204507,.int .u64 7257036000092981153,.int .u64 1814259000023245288,.int .u64 11493583972846619443,.int .u64 16292555063049989498,.int .u64 0,.int .u64 0,.int .u64 0,.int .u64 0,.int .u64 0,.int .u64 0,.int .u64 0,.int .u64 0]) (blk_put (cs':=#[.int .u64 0,.int .u64 9051005139383707209,.int .u64 18102010278767414418,.int .u64 9704381199536204507,.int .u64 7257036000092981153,.int .u64 1814259000023245288,.int .u64 11493583972846619443,.int .u64 0,.int .u64 0,.int .u64 0,.int .u64 0,.int .u64 0,.int .u64 0,.int .u64 0,.int .u64 0,.int .u64 0]) (blk_put (cs':=#[.int .u64 0,.int .u64 9051005139383707209,.int .u64 18102010278767414418,.int .u64 9704381199536204507,.int .u64 7257036000092981153,.int .u64 1814259000023245288,.int .u64 0,.int .u64 0,.int .u64 0,.int .u64 0,.int .u64 0,.int .u64 0,.int .u64 0,.int .u64 0,.int .u64 0,.int .u64 0]) (blk_put (cs':=#[.int .u64 0,.int .u64 9051005139383707209,.int .u64 18102010278767414418,.int .u64 9704381199536204507,.int .u64 7257036000092981153,.int .u64 0,.int .u64 0,.int .u64 0,.int .u64 0,.int .u64 0,.int .u64 0,.int .u64 0,.int .u64 0,.int .u64 0,.int .u64 0,.int .u64 0]) (blk_put (cs':=#[.int .u64 0,.int .u64 9051005139383707209,.int .u64 18102010278767414418,.int .u64 9704381199536204507,.int .u64 0,.int .u64 0,.int .u64 0,.int .u64 0,.int .u64 0,.int .u64 0,.int .u64 0,.int .u64 0,.int .u64 0,.int .u64 0,.int .u64 0,.int .u64 0]) (blk_put (cs':=#[.int .u64 0,.int .u64 9051005139383707209,.int .u64 18102010278767414418,.int .u64 0,.int .u64 0,.int .u64 0,.int .u64 0,.int .u64 0,.int .u64 0,.int .u64 0,.int .u64 0,.int .u64 0,.int .u64 0,.int .u64 0,.int .u64 0,.int .u64 0]) (blk_put (cs':=#[.int .u64 0,.int .u64 9051005139383707209,.int .u64 0,.int .u64 0,.int .u64 0,.int .u64 0,.int .u64 0,.int .u64 0,.int .u64 0,.int .u64 0,.int .u64 0,.int .u64 0,.int .u64 0,.int .u64 0,.int .u64 0,.int .u64 0]) (blk_put (cs':=#[.int .u64 0,.int .u64 0,.int .u64 0,.int .u64 0,.int .u64 0,.int .u64 0,.int .u64 0,.int .u64 0,.int .u64 0,.int .u64 0,.int .u64 0,.int .u64 0,.int .u64 0,.int .u64 0,.int .u64 0,.int .u64 0]) aC.out 0 (.int .u64 0) rfl) 1 (.int .u64 9051005139383707209) rfl) 2 (.int .u64 18102010278767414418) rfl) 3 (.int .u64 9704381199536204507) rfl) 4 (.int .u64 7257036000092981153) rfl) 5 (.int .u64 1814259000023245288) rfl) 6 (.int .u64 11493583972846619443) rfl) 7 (.int .u64 16292555063049989498) rfl) 8 (.int .u64 14514072000185962306) rfl) 9 (.int .u64 13040162471224305931) rfl) 10 (.int .u64 3628518000046490576) rfl) 11 (.int .u64 5746791986423309721) rfl) 12 (.int .u64 12527462061959317731) rfl) 13 (.int .u64 15006518869663149738) rfl) 14 (.int .u64 6263731030979658865) rfl) 15 (.int .u64 3131865515489829432) rfl)⟩;clear hw HB;have HB:=aP;clear aC a2 a3 a4 a5 a6 a7 a8 a9 bA bB bC bD bE bF bG bH bI bJ bK bL aD aE aF aG aH aI aJ aK aL aM aN aO;have aC:=b8;clear aP b8;obtain⟨a2,a3,a4,a5,a6,a7,a8,a9,bA,bB,bC,bD,bE,bF,bG,bH,bI,bJ,bK,bL,aD,aE,aF,aG,aH,aI,aJ,aK,aL,aM,aN,aO⟩:=be16 aC.out))
 rw[seal_Sum.tab_arr]at aC
 clear a2 a3 a4 a5 a6 a7 a8 a9 bA bB bC bD bE bF bG bH bI bJ bK bL aD aE aF aG aH aI aJ aK aL aM aN aO
 go_loopg [4,11] l0.length (fun kq v4 v11 w'=> ∃ (i:Nat) (x:Int),v11=i6 (i:Int)∧v4=.int .u64 x∧Aside0 (0≤x∧x< 18446744073709551616)∧Aside0 (kq=l0.length - i)∧Aside0 (i≤l0.length)∧Aside0 (seal_Sum.crcs x (l0.drop i)=R)∧Aside0 (w'.heap[aA]?=some (.cells (seal_Sum.tab.map (Value.int .u64)).toArray 106 (0,0)))∧Aside0 (Below w.heap.size w w'))
 case atStart=> exact⟨0,18446744073709551615,rfl,rfl,⟨by decide⟩,⟨rfl⟩,⟨Nat.zero_le _⟩,⟨HX.out.symm⟩,⟨aC.out⟩,⟨HB.out⟩⟩
 case round=>
  clear aC HB
  obtain⟨i,x,rfl,rfl,HU,HK,HI,HA,aC,HB⟩:=hrel
  by_cases hlt:i< l0.length
  ·have d1:decide ((i:Int)< (l0.length:Int))=true:=decide_eq_true (by omega)
   have d2:(0≤(i:Int))=True:=eq_true (by omega)
   have d3:((i:Int)< (l0.length:Int))=True:=eq_true (by omega)
   obtain⟨ad,e,hx⟩:=Kd.at_string HR.out (i:Int) (by omega) (by omega)
   subst e
   replace hx:=(HB.out.cell (World.block_lt_of_cell? w _ hx)).trans hx
   rw[Int.toNat_natCast]at hx
   have hd:l0.drop i=rdOf ByteArray.empty l0 (i:Int) :: l0.drop (i+1):=by
    rw[List.drop_eq_getElem_cons hlt]
    unfold rdOf
    rw[Int.toNat_natCast,List.getD_eq_getElem?_getD,List.getElem?_eq_getElem hlt]
    rfl
   generalize rdOf ByteArray.empty l0 (i:Int)=s at hx hd
   have HSZ:=am (HM.out s (List.mem_of_mem_drop (by rw[hd];exact List.mem_cons_self)))
   have hA:=HA.out
   rw[hd]at hA
   replace hA:seal_Sum.crcs (seal_Sum.crcS x s.data.toList) (l0.drop (i+1))=R:=hA
   obtain⟨R2,hR2⟩:∃ R2,R2=seal_Sum.crcS x s.data.toList:=⟨_,rfl⟩
   rw[← hR2]at hA
   have HR2:=am hR2.symm
   have HA2:=am hA
   have HLT:=am hlt
   clear hR2 hA hd HA hlt
   have hi2:wrap64 ((i:Int)+1)=((i+1:Nat):Int):=by have:=HL.out;have:=HLT.out;rw[IntWalk.wrap64_in _ (by omega)];omega
   go_wp2
   go_loopg [4,17] s.size (fun kq v4 v17 w'=> ∃ (j:Nat) (y:Int),v17=i6 (j:Int)∧v4=.int .u64 y∧Aside0 (0≤y∧y< 18446744073709551616)∧Aside0 (kq=s.size - j)∧Aside0 (j≤s.size)∧Aside0 (seal_Sum.crcS y (s.data.toList.drop j)=R2)∧Aside0 (w'.heap[aA]?=some (.cells (seal_Sum.tab.map (Value.int .u64)).toArray 106 (0,0)))∧Aside0 (Below w.heap.size w w'))
   case atStart=> exact⟨0,x,rfl,rfl,HU,⟨rfl⟩,⟨Nat.zero_le _⟩,HR2,⟨aC.out⟩,⟨HB.out⟩⟩
   case round=>
    clear aC HB HR2 hx HU
    obtain⟨j,y,rfl,rfl,HU,cD,HJ,HR2,aC,HB⟩:=hrel
    by_cases hlt:j< s.size
    ·have d4:decide ((j:Int)< (s.size:Int))=true:=decide_eq_true (by omega)
     have d5:(0≤(j:Int))=True:=eq_true (by omega)
     have d6:((j:Int)< (s.size:Int))=True:=eq_true (by omega)
     have hb:∀ h:j< s.size,((s[j]'h).toNat:Int)=bt s j:=bt_at s j
     have hsz:=HSZ.out
     have hj2:wrap64 ((j:Int)+1)=((j+1:Nat):Int):=by rw[IntWalk.wrap64_in _ (by omega)];omega
     clear hsz
     have hbl:=bt_range s (j:Int)
     have hw:IntKind.u64.wrap (bt s (j:Int))=bt s (j:Int):=by rw[seal_Sum.w64];omega
     have hA:=HR2.out
     have hdj:s.data.toList.drop j=(s.data.toList[j]'(by simpa using hlt)) :: s.data.toList.drop (j+1):=List.drop_eq_getElem_cons (by simpa using hlt)
     rw[hdj]at hA
     replace hA:seal_Sum.crcS (seal_Sum.stepB y (((s.data.toList[j]'(by simpa using hlt)).toNat:Nat):Int)) (s.data.toList.drop (j+1))=R2:=hA
     rw[show(((s.data.toList[j]'(by simpa using hlt)).toNat:Nat):Int)=bt s (j:Int)by rw[← hb hlt];rfl]at hA
     clear hdj HR2
     generalize bt s (j:Int)=b at hb hbl hw hA
     obtain⟨y1,hy1⟩:∃ y1,bits .xor .u64 y b=y1:=⟨_,rfl⟩
     have q1:=seal_Sum.xor_rng y b HU.out (by omega)
     rw[hy1]at q1
     obtain⟨i1,hi1,e1⟩:=seal_Sum.and15 y1 q1
     obtain⟨v1,hv1⟩:∃ v,v=seal_Sum.tab.getD i1 0:=⟨_,rfl⟩
     obtain⟨y2,hy2⟩:∃ y2,bits .xor .u64 (y1 / 16) v1=y2:=⟨_,rfl⟩
     have q2:=seal_Sum.xor_rng (y1 / 16) v1 (by omega) (by rw[hv1];exact seal_Sum.tab_rng i1 hi1)
     rw[hy2]at q2
     obtain⟨i2,hi3,e2⟩:=seal_Sum.and15 y2 q2
     obtain⟨v2,hv2⟩:∃ v,v=seal_Sum.tab.getD i2 0:=⟨_,rfl⟩
     obtain⟨y3,hy3⟩:∃ y3,bits .xor .u64 (y2 / 16) v2=y3:=⟨_,rfl⟩
     have q3:=seal_Sum.xor_rng (y2 / 16) v2 (by omega) (by rw[hv2];exact seal_Sum.tab_rng i2 hi3)
     rw[hy3]at q3
     have hs3:seal_Sum.stepB y b=y3:=by
      unfold seal_Sum.stepB
      rw[hy1]
      have n1:seal_Sum.nib y1=y2:=by unfold seal_Sum.nib;rw[e1,Int.toNat_natCast,← hv1];exact hy2
      rw[n1]
      unfold seal_Sum.nib
      rw[e2,Int.toNat_natCast,← hv2]
      exact hy3
     rw[hs3]at hA
     have HA:=am hA
     have Q3:=am q3
     have t1:(0≤(i1:Int))=True:=eq_true (by omega)
     have t2:((i1:Int)< 16)=True:=eq_true (by omega)
     have t3:(0≤(i2:Int))=True:=eq_true (by omega)
     have t4:((i2:Int)< 16)=True:=eq_true (by omega)
     have hm1:wr.cell? ⟨aA,i1,none⟩=some (.int .u64 v1):=by rw[hv1];exact(blk_cell aC.out i1).trans (seal_Sum.tab_get i1 hi1)
     have hm2:wr.cell? ⟨aA,i2,none⟩=some (.int .u64 v2):=by rw[hv2];exact(blk_cell aC.out i2).trans (seal_Sum.tab_get i2 hi3)
     have HLJ:=am hlt
     have p1:=q1.1
     have p2:=q2.1
     have p3:=q1.2
     have p4:=q2.2
     clear hs3 hA hbl q1 q2 q3 hi1 hi3 hlt hv1 hv2
     go_wp2
     obtain⟨k,hk⟩:∃ k,s.size - j=k+1:=⟨s.size - j - 1,by have:=HLJ.out;omega⟩
     go_roundg k
     case measure=> have:=cD.out;omega
     case rel=> exact⟨j+1,y3,by rw[hj2],rfl,Q3,⟨by omega⟩,⟨by have:=HLJ.out;omega⟩,HA,aC,HB⟩
    ·have d4:decide ((j:Int)< (s.size:Int))=false:=decide_eq_false (by omega)
     have hy:y=R2:=by
      have hA:=HR2.out
      rw[List.drop_of_length_le (by rw[Array.length_toList];show s.size≤j;omega)]at hA
      exact hA
     subst hy
     go_wp2
     obtain⟨k,hk⟩:∃ k,l0.length - i=k+1:=⟨l0.length - i - 1,by have:=HLT.out;omega⟩
     go_roundg k
     case measure=> have:=HK.out;omega
     case rel=> exact⟨i+1,y,by rw[hi2],rfl,HU,⟨by omega⟩,⟨by have:=HLT.out;omega⟩,HA2,aC,HB⟩
  ·have d1:decide ((i:Int)< (l0.length:Int))=false:=decide_eq_false (by omega)
   have hy:x=R:=by
    have hA:=HA.out
    rw[List.drop_of_length_le (by omega)]at hA
    exact hA
   subst hy
   go_wp2
   go_ret
   exact⟨rfl,HB.out⟩

/-! ### seal_Seal: function 21 -/
def seal_Seal.j0:Nat→Int→ByteArray→Bool→Option (ByteArray×Int)
 |0,_,_,_=> none
 |k+1,x0,x1,aY=> if aY=true then(some ((⟨#[]⟩:ByteArray),2))else(if(x1.size:Int)> 30000 then(some ((⟨#[]⟩:ByteArray),3))else((some (([231,(x0) % 256]:List Int):List Int)).bind fun aC=> ((pack_Text.f k x1).bind fun aB=> (if(strOfNums aC).size+aB.size≤9223372036854775807 then((seal_Sum.f (([(strOfNums aC)++aB]:List ByteArray))).bind fun aE=> ((seal_eight.f aE).bind fun aD=> (if(strOfNums aC).size+aB.size+aD.size≤9223372036854775807 then(some (((strOfNums aC)++aB)++aD,0))else(none))))else(none)))))
def seal_Seal.f (k:Nat) (a0:Int) (a1:ByteArray):Option (ByteArray×Int):=if a0< 0 then(seal_Seal.j0 k a0 a1 true)else(seal_Seal.j0 k a0 a1 (decide (a0> 255)))
theorem seal_Seal.mono_l:∀ k,(∀ y0 y1 y2,LeO (seal_Seal.j0 k y0 y1 y2) (seal_Seal.j0 (k+1) y0 y1 y2))
 |0=> fun _ _ _ r h=> by simp[seal_Seal.j0]at h
 |k+1=> by
  have ih0:=seal_Seal.mono_l k
  ·intro y0 y1 y2
   unfold seal_Seal.j0
   repeat' with_reducible first|apply ih0|apply pack_Text.mono|apply LeO.refl|apply LeO.none|refine LeO.ite ?_ ?_|refine LeO.bind ?_ (fun _=> ?_)
theorem seal_Seal.mono:∀ a0 a1 k,LeO (seal_Seal.f k a0 a1) (seal_Seal.f (k+1) a0 a1):=by
 intro a0 a1 k
 have ih0:=seal_Seal.mono_l k
 unfold seal_Seal.f
 repeat' with_reducible first|apply ih0|apply pack_Text.mono|apply LeO.refl|apply LeO.none|refine LeO.ite ?_ ?_|refine LeO.bind ?_ (fun _=> ?_)
def seal_Seal.T5:Bool×List (List Nat×List Nat):=(true,[([],[]),([0],[0]),([1],[1]),([2],[2]),([],[]),([4],[4]),([3,5],[3,5]),([6,5,0,1,2,3,4,5,6],[6])])
def seal_Seal.B5:List Nat:=[0,1,3,7,0,16,63,127]
theorem seal_Seal.tab5:rtab .any (opsOf Tryz.f21 5)=seal_Seal.T5:=by kernel_rfl
theorem seal_Seal.bits5:waitsOk seal_Seal.T5.2 seal_Seal.B5=true:=by kernel_rfl
set_option maxHeartbeats 8000000 in
set_option maxRecDepth 100000 in
theorem seal_Seal.calls (k:Nat) (a0:Int) (a1:ByteArray) (r1:ByteArray) (r2:Int) (w:World) (h:seal_Seal.f k a0 a1=some (r1,r2)) :
  Calls Tryz.prog 21 #[i6 a0,.string a1] w fun e w'=> e=.returned (.tuple #[.string r1,i6 r2])∧Below w.heap.size w w':=by
 have HB:=am (Below.refl w.heap.size w)
 unfold seal_Seal.f at h
 have H:=h
 clear h
 have HC3:=am H
 clear H
 go_enter Tryz.func21,Tryz.ntmps21
 go_upto_region 1 with(fail)
 go_cut [12] (fun v12 wc=> ∃ (kq:Nat) (aH:Bool),v12=.bool aH∧Aside0 (seal_Seal.j0 kq a0 a1 aH=some (r1,r2))∧Aside0 (kq≤k)∧Aside0 (Below w.heap.size w wc))
 case first=>
  have H:=HC3.out
  clear HC3
  by_cases c4:a0< 0
  ·rw[if_pos c4]at H
   have aN:=decide_eq_true c4
   clear c4
   (skip)
   have H':=am H
   clear H
   go_wp2
   go_meet
   case rel=> exact⟨_,(true),(by rfl),H',⟨by omega⟩,⟨HB.out⟩⟩
  ·rw[if_neg c4]at H
   have aN:=decide_eq_false c4
   clear c4
   (skip)
   have H':=am H
   clear H
   go_wp2
   go_meet
   case rel=> exact⟨_,(decide (a0> 255)),(by rfl),H',⟨by omega⟩,⟨HB.out⟩⟩
 case rest=>
  clear HC3
  obtain⟨kq,aH,rfl,HA,a6,HB⟩:=hcut
  cases kq with
  |zero=> exact absurd HA.out (by simp[seal_Seal.j0])
  |succ aK=>
   have H:=HA.out
   clear HA
   simp only[seal_Seal.j0]at H
   by_cases c5:aH=true
   ·subst c5
    have H1:(some ((⟨#[]⟩:ByteArray),2))=some (r1,r2):=by rw[if_pos rfl]at H;exact H
    clear H
    have H:=H1
    clear H1
    simp only[Option.some.injEq,Prod.mk.injEq]at H
    obtain⟨rfl,rfl⟩:=H
    go_wp2
    go_ret2
    exact⟨by rfl,HB.out⟩
   ·replace c5:=Bool.eq_false_iff.mpr c5
    subst c5
    have H1:(if(a1.size:Int)> 30000 then(some ((⟨#[]⟩:ByteArray),3))else((some (([231,(a0) % 256]:List Int):List Int)).bind fun aC=> ((pack_Text.f aK a1).bind fun aB=> (if(strOfNums aC).size+aB.size≤9223372036854775807 then((seal_Sum.f (([(strOfNums aC)++aB]:List ByteArray))).bind fun aE=> ((seal_eight.f aE).bind fun aD=> (if(strOfNums aC).size+aB.size+aD.size≤9223372036854775807 then(some (((strOfNums aC)++aB)++aD,0))else(none))))else(none)))))=some (r1,r2):=by rw[if_neg (show ¬ (false=true)by decide)]at H;exact H
    clear H
    have H:=H1
    clear H1
    by_cases c6:(a1.size:Int)> 30000
    ·rw[if_pos c6]at H
     have aO:decide (30000< (a1.size:Int))=true:=decide_eq_true c6
     have aP:decide (30000< a1.size)=true:=decide_eq_true (by omega)
     clear c6
     simp only[Option.some.injEq,Prod.mk.injEq]at H
     obtain⟨rfl,rfl⟩:=H
     go_wp2
     go_ret2
     exact⟨by rfl,HB.out⟩
    ·rw[if_neg c6]at H
     have aO:decide (30000< (a1.size:Int))=false:=decide_eq_false c6
     have aP:decide (30000< a1.size)=false:=decide_eq_false (by omega)
     clear c6
     obtain⟨aC,hy174⟩:∃ y_:List Int,y_=(([231,(a0) % 256]:List Int)):=⟨_,rfl⟩
     replace H:((pack_Text.f aK a1).bind fun aB=> (if(strOfNums aC).size+aB.size≤9223372036854775807 then((seal_Sum.f (([(strOfNums aC)++aB]:List ByteArray))).bind fun aE=> ((seal_eight.f aE).bind fun aD=> (if(strOfNums aC).size+aB.size+aD.size≤9223372036854775807 then(some (((strOfNums aC)++aB)++aD,0))else(none))))else(none)))=some (r1,r2):=by(have H2_:=(Option.bind_some _ _).symm.trans H;rw[hy174];with_reducible exact H2_)
     have Ny174:=am hy174
     clear hy174
     obtain⟨aB,aS,H⟩:=Option.bind_eq_some_iff.mp H
     try dsimp only at H
     have A7:=am aS
     clear aS
     by_cases c8:(strOfNums aC).size+aB.size≤9223372036854775807
     ·rw[if_pos c8]at H
      have aZ:=eq_true c8
      have a2:=decide_eq_true c8
      try have a3:(9223372036854775807< (strOfNums aC).size+aB.size)=False:=eq_false (Nat.not_lt.2 c8)
      obtain⟨aJ,hy178⟩:∃ y_:List ByteArray,y_=(([(strOfNums aC)++aB]:List ByteArray)):=⟨_,rfl⟩
      replace H:((seal_Sum.f aJ).bind fun aE=> ((seal_eight.f aE).bind fun aD=> (if(strOfNums aC).size+aB.size+aD.size≤9223372036854775807 then(some (((strOfNums aC)++aB)++aD,0))else(none))))=some (r1,r2):=by(rw[hy178];with_reducible exact H)
      have Ny178:=am hy178
      clear hy178
      obtain⟨aE,aT,H⟩:=Option.bind_eq_some_iff.mp H
      try dsimp only at H
      have A9:=am aT
      clear aT
      obtain⟨aD,aL,H⟩:=Option.bind_eq_some_iff.mp H
      try dsimp only at H
      have a4:=am aL
      clear aL
      by_cases aM:(strOfNums aC).size+aB.size+aD.size≤9223372036854775807
      ·rw[if_pos aM]at H
       have aU:=eq_true aM
       have aV:=decide_eq_true aM
       try have aW:(9223372036854775807< (strOfNums aC).size+aB.size+aD.size)=False:=eq_false (Nat.not_lt.2 aM)
       simp only[Option.some.injEq,Prod.mk.injEq]at H
       obtain⟨rfl,rfl⟩:=H
       try go_wp2
       have aG:=am (below_drew1 HB.out)
       clear HB
       have HB:=aG
       clear aG
       refine start_ (n:=8) (S:=fun w'=> True) (ds:=[]) (rl [0,8]) (by kernel_rfl) rfl rfl trivial (fun hHeld=> ?_);refine with_tabW seal_Seal.tab5 seal_Seal.bits5 (fun HT_ HW_=> ?_)
       generalize wc.drew=a7 at HB hHeld ⊢
       refine pure_ (i:=0) (N:=some 16) (v:=?_) (a':=?_) (rl [1,7]) rfl rfl (any_of HT_.out (by kernel_rfl)) (fun _ _ _ h=> h) (Or.inl ⟨by rfl,?_⟩) ?_ ?_
       rotate_left
       ·intro w'
        go_simp
        with_reducible rfl
       rotate_left
       ·simp only[Act.put,l_a,l_z,l_s,i64_w,i32_w]
        rfl
       refine pure_ (i:=1) (N:=some 17) (v:=?_) (a':=?_) (rl [2,6]) rfl rfl (any_of HT_.out (by kernel_rfl)) (fun _ _ _ h=> h) (Or.inl ⟨by rfl,?_⟩) ?_ ?_
       rotate_left
       ·intro w'
        go_simp
        with_reducible rfl
       rotate_left
       ·simp only[Act.put,l_a,l_z,l_s,i64_w,i32_w]
        rfl
       refine pure_ (i:=4) (N:=some 20) (v:=?_) (a':=?_) (rl [2,2,1,3]) rfl rfl (any_of HT_.out (by kernel_rfl)) (fun _ _ _ h=> h) (Or.inl ⟨by rfl,?_⟩) ?_ ?_
       rotate_left
       ·intro w'
        go_simp
        with_reducible rfl
       rotate_left
       ·simp only[Act.put,l_a,l_z,l_s,i64_w,i32_w]
        rfl
       refine join_ (σ:=Value) 2 (rl [6,2]) (fun s_=> [(18,s_),(19,.string (strOfNums aC)),(21,.string aB)]) (fun s_ w'=> (Kd.R (Kd.int .u8) 5 w' w.heap.size (fun _=> True) s_ aC)∧(Below w.heap.size w w')) ?_ ?_
       rotate_left
       ·intro hCont
        refine two_ (i:=2) (j:=5) (Ni:=some 18) (Nj:=some 21) (rl [3,1,1,3]) (rl [2,2,2,2]) rfl rfl rfl rfl (two_of HT_.out (by kernel_rfl)) (by decide) (by decide) (fun K hK=> ?_) (fun K hK=> ?_)
        ·skip
         refine Kd.R_lit_step (Kd.int .u8) _ 5 ?hg (N:=18) ?hd (xs:=([231,(a0) % 256]:List Int)) (inner:=[.int .u8 231,.int .u8 ((a0) % 256)]) (ok:=fun _=> True) (okp:=fun _=> True) ?hr ?hp (fun _ hk=> hk) trivial (Below.refl _ _) (Nat.le_refl _) (by simp) ?_;(case hd=> rfl);(case hg=> rfl);(case hr=> (go_simp;rfl));(case hp=> exact(Reps.one (show Kd.M (Kd.int .u8) _ _ _ 231 [.int .u8 231]from rfl) (Reps.one (show Kd.M (Kd.int .u8) _ _ _ ((a0) % 256) [.int .u8 ((a0) % 256)]from rfl) (Reps.none _ _))))
         intro v175 a5 ho14 hb hg_ hnew_
         clear hg_ hnew_
         (rw[← Ny174.out]at ho14)
         have aG:=am (Kd.R_lower ho14 (below_size (HB.out)))
         have aI:=am (below_step (HB.out) hb)
         clear HB
         have aA:=aG
         have HB:=aI
         clear aG aI
         clear hb ho14
         refine hK.out _ _ trivial (fun hHeld=> ?_)
         clear hK K
         refine norm_ (a':=?_) ?_ ?_
         rotate_left
         ·show Act.put _ (some 18) _=_
          simp only[Act.put,l_a,l_z,l_s,i64_w,i32_w]
          rfl
         refine two_ (i:=3) (j:=5) (Ni:=some 19) (Nj:=some 21) (rl [5,3]) (rl [3,1,2,2]) rfl rfl rfl rfl (two_of HT_.out (by kernel_rfl)) (by decide) (by decide) (fun K hK=> ?_) (fun K hK=> ?_)
         ·skip
          have hcv15:=own_string (P:=Tryz.prog) Tryz.underlying81 Tryz.underlying5 Tryz.underlying9 (Kd.own_of_R aA.out)
          refine value_ (w1:=?_) (v:=?_) (by rfl) rfl ?_ ?_
          rotate_left 2
          ·go_simp
           constructor
           ·rfl
           ·rfl
          clear hcv15
          refine hK.out _ _ trivial (fun hHeld=> ?_)
          clear hK K
          refine norm_ (a':=?_) ?_ ?_
          rotate_left
          ·show Act.put _ (some 19) _=_
           simp only[Act.put,l_a,l_z,l_s,i64_w,i32_w]
           rfl
          refine one_ (i:=5) (N:=some 21) (rl [6,2]) rfl rfl (one_of HT_.out (by kernel_rfl)) (by decide) (fun K hK=> ?_)
          refine goes_ Tryz.func20 (by kernel_rfl) rfl #[.string a1] (by rfl) rfl rfl (by(try simp only[l_m,l_c,l_n]);rfl) ?_
          with_reducible refine(pack_Text.calls aK a1 aB _ A7.out).mono ?_
          rintro e a8 ⟨rfl,hb⟩
          refine⟨_,rfl,?_⟩
          have aG:=am (Kd.R_below (by exact aA.out) hb)
          have aI:=am (below_step (HB.out) hb)
          clear aA HB
          have aA:=aG
          have HB:=aI
          clear aG aI
          clear hb
          refine hK.out _ _ trivial (fun hHeld=> ?_)
          clear hK K
          refine norm_ (a':=?_) ?_ ?_
          rotate_left
          ·show Act.put _ (some 21) _=_
           simp only[Act.put,l_a,l_z,l_s,i64_w,i32_w]
           rfl
          exact norm_ (by simp only[putAll,Act.put,l_a,l_z,l_s]) (hCont (v175) _ ⟨(by exact aA.out),(HB.out)⟩)
         ·skip
          refine goes_ Tryz.func20 (by kernel_rfl) rfl #[.string a1] (by rfl) rfl rfl (by(try simp only[l_m,l_c,l_n]);rfl) ?_
          with_reducible refine(pack_Text.calls aK a1 aB _ A7.out).mono ?_
          rintro e a9 ⟨rfl,hb⟩
          refine⟨_,rfl,?_⟩
          have aG:=am (Kd.R_below (by exact aA.out) hb)
          have aI:=am (below_step (HB.out) hb)
          clear aA HB
          have aA:=aG
          have HB:=aI
          clear aG aI
          clear hb
          refine hK.out _ _ trivial (fun hHeld=> ?_)
          clear hK K
          refine norm_ (a':=?_) ?_ ?_
          rotate_left
          ·show Act.put _ (some 21) _=_
           simp only[Act.put,l_a,l_z,l_s,i64_w,i32_w]
           rfl
          refine one_ (i:=3) (N:=some 19) (rl [6,2]) rfl rfl (one_of HT_.out (by kernel_rfl)) (by decide) (fun K hK=> ?_)
          have hcv16:=own_string (P:=Tryz.prog) Tryz.underlying81 Tryz.underlying5 Tryz.underlying9 (Kd.own_of_R aA.out)
          refine value_ (w1:=?_) (v:=?_) (by rfl) rfl ?_ ?_
          rotate_left 2
          ·go_simp
           constructor
           ·rfl
           ·rfl
          clear hcv16
          refine hK.out _ _ trivial (fun hHeld=> ?_)
          clear hK K
          refine norm_ (a':=?_) ?_ ?_
          rotate_left
          ·show Act.put _ (some 19) _=_
           simp only[Act.put,l_a,l_z,l_s,i64_w,i32_w]
           rfl
          exact norm_ (by simp only[putAll,Act.put,l_a,l_z,l_s]) (hCont (v175) _ ⟨(by exact aA.out),(HB.out)⟩)
        ·skip
         refine goes_ Tryz.func20 (by kernel_rfl) rfl #[.string a1] (by rfl) rfl rfl (by(try simp only[l_m,l_c,l_n]);rfl) ?_
         with_reducible refine(pack_Text.calls aK a1 aB _ A7.out).mono ?_
         rintro e a5 ⟨rfl,hb⟩
         refine⟨_,rfl,?_⟩
         have aG:=am (below_step (HB.out) hb)
         clear HB
         have HB:=aG
         clear aG
         clear hb
         refine hK.out _ _ trivial (fun hHeld=> ?_)
         clear hK K
         refine norm_ (a':=?_) ?_ ?_
         rotate_left
         ·show Act.put _ (some 21) _=_
          simp only[Act.put,l_a,l_z,l_s,i64_w,i32_w]
          rfl
         refine one_ (i:=2) (N:=some 18) (rl [3,1,2,2]) rfl rfl (one_of HT_.out (by kernel_rfl)) (by decide) (fun K hK=> ?_)
         refine Kd.R_lit_step (Kd.int .u8) _ 5 ?hg (N:=18) ?hd (xs:=([231,(a0) % 256]:List Int)) (inner:=[.int .u8 231,.int .u8 ((a0) % 256)]) (ok:=fun _=> True) (okp:=fun _=> True) ?hr ?hp (fun _ hk=> hk) trivial (Below.refl _ _) (Nat.le_refl _) (by simp) ?_;(case hd=> rfl);(case hg=> rfl);(case hr=> (go_simp;rfl));(case hp=> exact(Reps.one (show Kd.M (Kd.int .u8) _ _ _ 231 [.int .u8 231]from rfl) (Reps.one (show Kd.M (Kd.int .u8) _ _ _ ((a0) % 256) [.int .u8 ((a0) % 256)]from rfl) (Reps.none _ _))))
         intro v175 bA ho15 hb hg_ hnew_
         clear hg_ hnew_
         (rw[← Ny174.out]at ho15)
         have aG:=am (Kd.R_lower ho15 (below_size (HB.out)))
         have aI:=am (below_step (HB.out) hb)
         clear HB
         have aA:=aG
         have HB:=aI
         clear aG aI
         clear hb ho15
         refine hK.out _ _ trivial (fun hHeld=> ?_)
         clear hK K
         refine norm_ (a':=?_) ?_ ?_
         rotate_left
         ·show Act.put _ (some 18) _=_
          simp only[Act.put,l_a,l_z,l_s,i64_w,i32_w]
          rfl
         refine one_ (i:=3) (N:=some 19) (rl [6,2]) rfl rfl (one_of HT_.out (by kernel_rfl)) (by decide) (fun K hK=> ?_)
         have hcv16:=own_string (P:=Tryz.prog) Tryz.underlying81 Tryz.underlying5 Tryz.underlying9 (Kd.own_of_R aA.out)
         refine value_ (w1:=?_) (v:=?_) (by rfl) rfl ?_ ?_
         rotate_left 2
         ·go_simp
          constructor
          ·rfl
          ·rfl
         clear hcv16
         refine hK.out _ _ trivial (fun hHeld=> ?_)
         clear hK K
         refine norm_ (a':=?_) ?_ ?_
         rotate_left
         ·show Act.put _ (some 19) _=_
          simp only[Act.put,l_a,l_z,l_s,i64_w,i32_w]
          rfl
         exact norm_ (by simp only[putAll,Act.put,l_a,l_z,l_s]) (hCont (v175) _ ⟨(by exact aA.out),(HB.out)⟩)
       rintro v175 aX ⟨h0_,h1_⟩
       have aG:Aside0 (Kd.R (Kd.int .u8) 5 aX w.heap.size (fun _=> True) v175 aC):=⟨h0_⟩
       have aI:Aside0 (Below w.heap.size w aX):=⟨h1_⟩
       clear HB
       clear h0_ h1_
       have aA:=aG
       have HB:=aI
       clear aG aI
       have hHeld:=trivial
       refine norm_ (a':=?_) ?_ ?_
       rotate_left
       ·simp only[putAll,Act.put,l_a,l_z,l_s]
        rfl
       refine pure_ (i:=6) (N:=some 22) (v:=?_) (a':=?_) (rl [7,1]) rfl rfl (any_of HT_.out (by kernel_rfl)) (fun _ _ _ h=> h) (Or.inl ⟨by rfl,?_⟩) ?_ ?_
       rotate_left
       ·intro w'
        go_simp
        with_reducible rfl
       rotate_left
       ·simp only[Act.put,l_a,l_z,l_s,i64_w,i32_w]
        rfl
       refine pure_ (i:=7) (N:=some 6) (v:=?_) (a':=?_) (rl [8]) rfl rfl (any_of HT_.out (by kernel_rfl)) (fun _ _ _ h=> h) (Or.inl ⟨by rfl,?_⟩) ?_ ?_
       rotate_left
       ·intro w'
        go_simp
        with_reducible rfl
       rotate_left
       ·simp only[Act.put,l_a,l_z,l_s,i64_w,i32_w]
        rfl
       refine done_ (done_of HT_.out (by kernel_rfl)) ?_
       try go_wp2_with (first|((with_reducible refine gate_dst (N:=25) rfl ?_);refine Kd.R_lit Kd.string _ 9 ?hg (N:=25) ?hd (xs:=([(strOfNums aC)++aB]:List ByteArray)) (inner:=[.string ((strOfNums aC)++aB)]) (ok:=fun _=> True) (okp:=fun _=> True) ?hr ?hp (fun _ hk=> hk) trivial (Below.refl _ _) (Nat.le_refl _) (by simp) ?_;(case hd=> rfl);(case hg=> rfl);(case hr=> (go_simp;done));(case hp=> exact(Reps.one (show Kd.M Kd.string _ _ _ ((strOfNums aC)++aB) [.string ((strOfNums aC)++aB)]from rfl) (Reps.none _ _)));intro v179 bB ho19 hb hg_ hnew_;clear hg_ hnew_;(rw[← Ny178.out]at ho19);replace aA:=am (Kd.R_below (by exact aA.out) hb);have aF:=am (Kd.R_lower ho19 (below_size (HB.out)));replace HB:=am (below_step (HB.out) hb);clear hb ho19;obtain⟨aQ,aR,eo20⟩:=Kd.R_slice aF.out;subst eo20)|((with_reducible refine gate_callee (f:=43) rfl ?_);refine goesL_ (some 26) rfl rfl Tryz.func43 (by kernel_rfl) rfl #[.slice aQ aJ.length aR] rfl (by(try simp only[l_m,l_c,l_n]);rfl) ?_;(with_reducible refine(seal_Sum.calls _ _ aJ aE _ ?side1 ?side2 A9.out).mono ?_);(case side1=> exact(Kd.R_reads' aF.out).2.2);(case side2=> exact(Kd.R_reads' aF.out).2.1);rintro e bC ⟨rfl,hb⟩;refine⟨_,rfl,?_⟩;replace aA:=am (Kd.R_below (by exact aA.out) hb);replace aF:=am (Kd.R_below (by exact aF.out) hb);replace HB:=am (below_step (HB.out) hb);clear hb)|((with_reducible refine gate_callee (f:=42) rfl ?_);refine goesL_ (some 27) rfl rfl Tryz.func42 (by kernel_rfl) rfl #[.int .u64 aE] rfl (by(try simp only[l_m,l_c,l_n]);rfl) ?_;(with_reducible refine(seal_eight.calls aE aD _ a4.out).mono ?_);rintro e bD ⟨rfl,hb⟩;refine⟨_,rfl,?_⟩;replace aA:=am (Kd.R_below (by exact aA.out) hb);replace aF:=am (Kd.R_below (by exact aF.out) hb);replace HB:=am (below_step (HB.out) hb);clear hb))
       go_ret2
       exact⟨by rfl,HB.out⟩
      ·rw[if_neg aM]at H
       exact absurd H (by simp)
     ·rw[if_neg c8]at H
      exact absurd H (by simp)

end Go.Proofs.YtlaeihdldofkcaaGreatDoor.PN

/- The machine side of this seat's laws: plain functions, and proofs that the calls do what they say; written by a program of this session over the translation; no conditions beyond those typed. -/
import Derived.Test.YtlaeihdldofkcaaGreatDoorPMx0
import Derived.Test.YtlaeihdldofkcaaGreatDoorPMx5
import Derived.Test.YtlaeihdldofkcaaGreatDoorPMx6
import Derived.Test.YtlaeihdldofkcaaGreatDoorPMx10
namespace Go.Proofs.YtlaeihdldofkcaaGreatDoor.PN
open Go.RowKit Go.Proofs.YtlaeihdldofkcaaGreatDoorW.PrintWords Go.Proofs.YtlaeihdldofkcaaGreatDoorW.PrintLast Go.Proofs.YtlaeihdldofkcaaGreatDoorW.PrintMore
attribute [local go_sem] max2_int min2_int max_two min_two max_three min_three max_four min_four   -- for this text's walks alone
open List renaming setIfInBounds_toArray → l_a, set_cons_zero → l_z, set_cons_succ → l_s, map_toArray → l_m, map_cons → l_c, map_nil → l_n
set_option linter.unusedVariables false
set_option linter.unusedSimpArgs false

/-! ### ententelaw13_NoteDecodes: function 4 -/
def ententelaw13_NoteDecodes.f (k:Nat) (a0:ByteArray):Option (Bool):=if(a0.size:Int)> 40000 then((ententelaw13_awake.f k).bind fun bF=> (some bF))else((note_Decode.f k a0).bind fun aC=> ((ententeref13_Decode.f k a0).bind fun aD=> ((ententeref13_Same.f k aC.1 aC.2.1 aC.2.2.1 aC.2.2.2.1 aC.2.2.2.2.1 aC.2.2.2.2.2.1 aC.2.2.2.2.2.2.1 aC.2.2.2.2.2.2.2.1 aC.2.2.2.2.2.2.2.2.1 aC.2.2.2.2.2.2.2.2.2.1 aC.2.2.2.2.2.2.2.2.2.2.1 aC.2.2.2.2.2.2.2.2.2.2.2.1 aD.1 aD.2.1 aD.2.2.1 aD.2.2.2.1 aD.2.2.2.2.1 aD.2.2.2.2.2.1 aD.2.2.2.2.2.2.1 aD.2.2.2.2.2.2.2.1 aD.2.2.2.2.2.2.2.2.1 aD.2.2.2.2.2.2.2.2.2.1 aD.2.2.2.2.2.2.2.2.2.2.1 aD.2.2.2.2.2.2.2.2.2.2.2.1).bind fun bG=> (if bG=true then(if aC.2.2.2.2.2.2.2.2.2.2.2.2=aD.2.2.2.2.2.2.2.2.2.2.2.2 then((ententelaw13_awake.f k).bind fun a8=> (some a8))else(none))else(none)))))
set_option maxHeartbeats 8000000 in
set_option maxRecDepth 100000 in
theorem ententelaw13_NoteDecodes.calls (k:Nat) (a0:ByteArray) (r:Bool) (w:World) (hw_:WH w) (h:ententelaw13_NoteDecodes.f k a0=some r) :
  Calls Tryz.prog 4 #[.string a0] w fun e w'=> e=.returned (.bool r)∧Below w.heap.size w w':=by
 have hu28:=Tryz.underlying28
 have HWH_:=am hw_
 clear hw_
 have HB:=am (Below.refl w.heap.size w)
 unfold ententelaw13_NoteDecodes.f at h
 have H:=h
 clear h
 by_cases c2:(a0.size:Int)> 40000
 ·rw[if_pos c2]at H
  have dT:decide (40000< (a0.size:Int))=true:=decide_eq_true c2
  have dU:decide (40000< a0.size)=true:=decide_eq_true (by omega)
  clear c2
  obtain⟨bF,dV,H⟩:=Option.bind_eq_some_iff.mp H
  try dsimp only at H
  have A3:=am dV
  clear dV
  obtain rfl:=Option.some.inj H
  go_enter Tryz.func4,Tryz.ntmps4
  go_wp2_with (first|((with_reducible refine gate_callee (f:=6) rfl ?_);refine goesL_ (some 10) rfl rfl Tryz.func6 (by kernel_rfl) rfl #[] rfl (by(try simp only[l_m,l_c,l_n]);done) ?_;(with_reducible refine(ententelaw13_awake.calls k  bF _ ?side1 A3.out).mono ?_);(case side1=> exact WH.below HWH_.out (HB.out));rintro e w4 ⟨rfl,hb⟩;refine⟨_,rfl,?_⟩;replace HB:=am (below_step (HB.out) hb);clear hb))
  go_ret
  exact⟨by rfl,HB.out⟩
 ·rw[if_neg c2]at H
  have dT:decide (40000< (a0.size:Int))=false:=decide_eq_false c2
  have dU:decide (40000< a0.size)=false:=decide_eq_false (by omega)
  clear c2
  obtain⟨⟨aE,aG,aI,aL,aN,aP,aR,aU,aX,aV,a4,a9,bH⟩,dW,H⟩:=Option.bind_eq_some_iff.mp H
  try dsimp only at H
  have A5:=am dW
  clear dW
  obtain⟨⟨aH,aJ,aM,aO,aQ,aS,aW,aY,a1,aZ,bA,bD,bI⟩,dX,H⟩:=Option.bind_eq_some_iff.mp H
  try dsimp only at H
  have A6:=am dX
  clear dX
  obtain⟨bG,dY,H⟩:=Option.bind_eq_some_iff.mp H
  try dsimp only at H
  have A7:=am dY
  clear dY
  by_cases c8:bG=true
  ·subst c8
   have H1:(if bH=bI then((ententelaw13_awake.f k).bind fun a8=> (some a8))else(none))=some r:=by rw[if_pos rfl]at H;exact H
   clear H
   have H:=H1
   clear H1
   by_cases c9:bH=bI
   ·rw[if_pos c9]at H
    have d3:=beq_iff_eq.mpr c9
    have d4:=bne_eq_false_iff_eq.mpr c9
    clear c9
    obtain⟨a8,bJ,H⟩:=Option.bind_eq_some_iff.mp H
    try dsimp only at H
    have d5:=am bJ
    clear bJ
    obtain rfl:=Option.some.inj H
    go_enter Tryz.func4,Tryz.ntmps4
    go_wp2_with (first|((with_reducible refine gate_callee (f:=11) rfl ?_);refine goesL_ (some 13) rfl rfl Tryz.func11 (by kernel_rfl) rfl #[.string a0] rfl (by(try simp only[l_m,l_c,l_n]);rfl) ?_;(with_reducible refine(note_Decode.calls k a0 aE aG aI aL aN aP aR aU aX aV a4 a9 bH _ ?side1 A5.out).mono ?_);(case side1=> exact WH.below HWH_.out (HB.out));rintro e d6 ⟨v498,rfl,ho0,hb⟩;refine⟨_,rfl,?_⟩;have aB:=am (Kd.R_lower ho0 (below_size (HB.out)));replace HB:=am (below_step (HB.out) hb);clear hb ho0)|((with_reducible refine gate_dst (N:=3) rfl ?_);refine box_event ?hg (N:=3) ?hd (cs:=#[i6 0,i6 0,i6 0,i6 0,i6 0,i6 0,i6 0,i6 0,i6 0,.slice none 0 0,.string (⟨#[]⟩:ByteArray),i6 0]) (t:=28) ?hr ?_;(case hd=> rfl);(case hg=> rfl);(case hr=> (go_simp;done));intro a3 hg d7 hbox hb;replace aB:=am (Kd.R_below (by exact aB.out) hb);have aA:=am (hbox);have dZ:=am (gsz hg HB.out);have bE:=am (gsz hg HB.out);replace HB:=am (below_step (HB.out) hb);clear hb hbox hg;obtain⟨bX,bY,bZ,b0,b1,b2,b3,b4,b5,b6,bK,bL⟩:=bc12 aA.out;obtain⟨b7,b8,b9,cA,cB,cC,cD,cE,cF,cG,bM,bN⟩:=bf12 aA.out;obtain⟨a5,a2,eo14⟩:=Kd.R_slice aB.out;subst eo14)|((with_reducible refine gate_callee (f:=12) rfl ?_);refine goesL_ (some 18) rfl rfl Tryz.func12 (by kernel_rfl) rfl #[.string a0] rfl (by(try simp only[l_m,l_c,l_n]);rfl) ?_;(with_reducible refine(ententeref13_Decode.calls k a0 aH aJ aM aO aQ aS aW aY a1 aZ bA bD bI _ A6.out).mono ?_);rintro e d8 ⟨v514,rfl,ho0,hb⟩;refine⟨_,rfl,?_⟩;have aK:=am (Kd.R_lower (Kd.R_new' ho0 (Kd.R_lt (by exact(Kd.R_mono (rf (rf (rf (rf (rf (rf (rf (rf (rf (rf (rf (rf (Kd.R_types aB.out aA.out (by decide)))))))))))))) (fun _ h_=> h_.1))))) (below_size (bs12 HB.out bE.out)));replace aB:=am (Kd.R_elder' (by exact(Kd.R_mono (rf (rf (rf (rf (rf (rf (rf (rf (rf (rf (rf (rf (Kd.R_types aB.out aA.out (by decide)))))))))))))) (fun _ h_=> h_.1))) (Kd.R_base ho0) hb);replace aA:=am (blk_below (g:=a3) (o:=.cells #[i6 aE,i6 aG,i6 aI,i6 aL,i6 aN,i6 aP,i6 aR,i6 aU,i6 aX,.slice a5 aV.length a2,.string a4,i6 a9] 28 (0,0)) (by refine blk_put (cs:=#[i6 aE,i6 aG,i6 aI,i6 aL,i6 aN,i6 aP,i6 aR,i6 aU,i6 aX,.slice a5 aV.length a2,.string a4,i6 0]) ?_ 11 _ rfl;refine blk_put (cs:=#[i6 aE,i6 aG,i6 aI,i6 aL,i6 aN,i6 aP,i6 aR,i6 aU,i6 aX,.slice a5 aV.length a2,.string (⟨#[]⟩:ByteArray),i6 0]) ?_ 10 _ rfl;refine blk_put (cs:=#[i6 aE,i6 aG,i6 aI,i6 aL,i6 aN,i6 aP,i6 aR,i6 aU,i6 aX,.slice none 0 0,.string (⟨#[]⟩:ByteArray),i6 0]) ?_ 9 _ rfl;refine blk_put (cs:=#[i6 aE,i6 aG,i6 aI,i6 aL,i6 aN,i6 aP,i6 aR,i6 aU,i6 0,.slice none 0 0,.string (⟨#[]⟩:ByteArray),i6 0]) ?_ 8 _ rfl;refine blk_put (cs:=#[i6 aE,i6 aG,i6 aI,i6 aL,i6 aN,i6 aP,i6 aR,i6 0,i6 0,.slice none 0 0,.string (⟨#[]⟩:ByteArray),i6 0]) ?_ 7 _ rfl;refine blk_put (cs:=#[i6 aE,i6 aG,i6 aI,i6 aL,i6 aN,i6 aP,i6 0,i6 0,i6 0,.slice none 0 0,.string (⟨#[]⟩:ByteArray),i6 0]) ?_ 6 _ rfl;refine blk_put (cs:=#[i6 aE,i6 aG,i6 aI,i6 aL,i6 aN,i6 0,i6 0,i6 0,i6 0,.slice none 0 0,.string (⟨#[]⟩:ByteArray),i6 0]) ?_ 5 _ rfl;refine blk_put (cs:=#[i6 aE,i6 aG,i6 aI,i6 aL,i6 0,i6 0,i6 0,i6 0,i6 0,.slice none 0 0,.string (⟨#[]⟩:ByteArray),i6 0]) ?_ 4 _ rfl;refine blk_put (cs:=#[i6 aE,i6 aG,i6 aI,i6 0,i6 0,i6 0,i6 0,i6 0,i6 0,.slice none 0 0,.string (⟨#[]⟩:ByteArray),i6 0]) ?_ 3 _ rfl;refine blk_put (cs:=#[i6 aE,i6 aG,i6 0,i6 0,i6 0,i6 0,i6 0,i6 0,i6 0,.slice none 0 0,.string (⟨#[]⟩:ByteArray),i6 0]) ?_ 2 _ rfl;refine blk_put (cs:=#[i6 aE,i6 0,i6 0,i6 0,i6 0,i6 0,i6 0,i6 0,i6 0,.slice none 0 0,.string (⟨#[]⟩:ByteArray),i6 0]) ?_ 1 _ rfl;refine blk_put (cs:=#[i6 0,i6 0,i6 0,i6 0,i6 0,i6 0,i6 0,i6 0,i6 0,.slice none 0 0,.string (⟨#[]⟩:ByteArray),i6 0]) ?_ 0 _ rfl;exact aA.out) hb);replace HB:=am (below_step (bs12 HB.out bE.out) hb);clear hb ho0)|((with_reducible refine gate_dst (N:=5) rfl ?_);refine box_event ?hg (N:=5) ?hd (cs:=#[i6 0,i6 0,i6 0,i6 0,i6 0,i6 0,i6 0,i6 0,i6 0,.slice none 0 0,.string (⟨#[]⟩:ByteArray),i6 0]) (t:=28) ?hr ?_;(case hd=> rfl);(case hg=> rfl);(case hr=> (go_simp;done));intro bB hg d9 hbox hb;replace aB:=am (Kd.R_below (by exact aB.out) hb);replace aK:=am (Kd.R_below (by exact aK.out) hb);have aF:=am (hbox);have d0:=am (gsz hg HB.out);have bO:=am (gsz hg HB.out);replace HB:=am (below_step (HB.out) hb);have aT:=am ((by rw[hg];exact Nat.ne_of_lt (blk_lt aA.out):a3≠bB));have a6:=am ((by rw[hg];exact Nat.ne_of_gt (blk_lt aA.out):bB≠a3));replace aA:=am (blk_below aA.out hb);clear hb hbox hg;have d1:=a6.out;have d2:=aT.out;obtain⟨cH,cI,cJ,cK,cL,cM,cN,cO,cP,cQ,bP,bQ⟩:=bc12 aF.out;obtain⟨cR,cS,cT,cU,cV,cW,cX,cY,cZ,c0,bR,bS⟩:=bf12 aF.out;obtain⟨bC,a7,eo19⟩:=Kd.R_slice aK.out;subst eo19;obtain⟨c1,dA,dB,dC,dD,dE,dF,dG,dH,dI,bT,bU⟩:=bc12 aA.out;obtain⟨dJ,dK,dL,dM,dN,dO,dP,dQ,dR,dS,bV,bW⟩:=bf12 aA.out)|((with_reducible refine gate_callee (f:=13) rfl ?_);refine goesL_ (some 23) rfl rfl Tryz.func13 (by kernel_rfl) rfl #[.agg #[i6 aE,i6 aG,i6 aI,i6 aL,i6 aN,i6 aP,i6 aR,i6 aU,i6 aX,.slice a5 aV.length a2,.string a4,i6 a9],.agg #[i6 aH,i6 aJ,i6 aM,i6 aO,i6 aQ,i6 aS,i6 aW,i6 aY,i6 a1,.slice bC aZ.length a7,.string bA,i6 bD]] rfl (by(try simp only[l_m,l_c,l_n]);rfl) ?_;(with_reducible refine(ententeref13_Same.calls k aE aG aI aL aN aP aR aU aX _ _ aV a4 a9 aH aJ aM aO aQ aS aW aY a1 _ _ aZ bA bD true _ ?side1 ?side2 ?side3 ?side4 A7.out).mono ?_);(case side1=> refine(Kd.R_reads' (e:=46) (base:=w.heap.size) (ok:=fun k_=> (True∧some k_≠(.slice bC aZ.length a7:Value).ownBlock)) (n:=aV.length) (c:=a2) ?_).2.2;exact(by exact(Kd.R_mono (rf (rf (rf (rf (rf (rf (rf (rf (rf (rf (rf (rf (Kd.R_types aB.out aF.out (by decide)))))))))))))) (fun _ h_=> h_.1))));(case side2=> exact(Kd.R_reads' aB.out).2.1);(case side3=> refine(Kd.R_reads' (e:=46) (base:=w.heap.size) (ok:=fun k_=> (True∧some k_≠(.slice a5 aV.length a2:Value).ownBlock)) (n:=aZ.length) (c:=a7) ?_).2.2;exact(by exact(Kd.R_mono (rf (rf (rf (rf (rf (rf (rf (rf (rf (rf (rf (rf (Kd.R_types aK.out aF.out (by decide)))))))))))))) (fun _ h_=> h_.1))));(case side4=> exact(Kd.R_reads' aK.out).2.1);rintro e eA ⟨rfl,hb⟩;refine⟨_,rfl,?_⟩;replace aB:=am (Kd.R_below (by exact(Kd.R_mono (rf (rf (rf (rf (rf (rf (rf (rf (rf (rf (rf (rf (Kd.R_types aB.out aF.out (by decide)))))))))))))) (fun _ h_=> h_.1))) hb);replace aK:=am (Kd.R_below (by exact(Kd.R_mono (rf (rf (rf (rf (rf (rf (rf (rf (rf (rf (rf (rf (Kd.R_types aK.out aF.out (by decide)))))))))))))) (fun _ h_=> h_.1))) hb);replace aA:=am (blk_below (g:=a3) (o:=.cells #[i6 aE,i6 aG,i6 aI,i6 aL,i6 aN,i6 aP,i6 aR,i6 aU,i6 aX,.slice a5 aV.length a2,.string a4,i6 a9] 28 (0,0)) (by(iterate 12 refine blk_far ?_ aT.out _);exact aA.out) hb);replace aF:=am (blk_below (g:=bB) (o:=.cells #[i6 aH,i6 aJ,i6 aM,i6 aO,i6 aQ,i6 aS,i6 aW,i6 aY,i6 a1,.slice bC aZ.length a7,.string bA,i6 bD] 28 (0,0)) (by refine blk_put (cs:=#[i6 aH,i6 aJ,i6 aM,i6 aO,i6 aQ,i6 aS,i6 aW,i6 aY,i6 a1,.slice bC aZ.length a7,.string bA,i6 0]) ?_ 11 _ rfl;refine blk_put (cs:=#[i6 aH,i6 aJ,i6 aM,i6 aO,i6 aQ,i6 aS,i6 aW,i6 aY,i6 a1,.slice bC aZ.length a7,.string (⟨#[]⟩:ByteArray),i6 0]) ?_ 10 _ rfl;refine blk_put (cs:=#[i6 aH,i6 aJ,i6 aM,i6 aO,i6 aQ,i6 aS,i6 aW,i6 aY,i6 a1,.slice none 0 0,.string (⟨#[]⟩:ByteArray),i6 0]) ?_ 9 _ rfl;refine blk_put (cs:=#[i6 aH,i6 aJ,i6 aM,i6 aO,i6 aQ,i6 aS,i6 aW,i6 aY,i6 0,.slice none 0 0,.string (⟨#[]⟩:ByteArray),i6 0]) ?_ 8 _ rfl;refine blk_put (cs:=#[i6 aH,i6 aJ,i6 aM,i6 aO,i6 aQ,i6 aS,i6 aW,i6 0,i6 0,.slice none 0 0,.string (⟨#[]⟩:ByteArray),i6 0]) ?_ 7 _ rfl;refine blk_put (cs:=#[i6 aH,i6 aJ,i6 aM,i6 aO,i6 aQ,i6 aS,i6 0,i6 0,i6 0,.slice none 0 0,.string (⟨#[]⟩:ByteArray),i6 0]) ?_ 6 _ rfl;refine blk_put (cs:=#[i6 aH,i6 aJ,i6 aM,i6 aO,i6 aQ,i6 0,i6 0,i6 0,i6 0,.slice none 0 0,.string (⟨#[]⟩:ByteArray),i6 0]) ?_ 5 _ rfl;refine blk_put (cs:=#[i6 aH,i6 aJ,i6 aM,i6 aO,i6 0,i6 0,i6 0,i6 0,i6 0,.slice none 0 0,.string (⟨#[]⟩:ByteArray),i6 0]) ?_ 4 _ rfl;refine blk_put (cs:=#[i6 aH,i6 aJ,i6 aM,i6 0,i6 0,i6 0,i6 0,i6 0,i6 0,.slice none 0 0,.string (⟨#[]⟩:ByteArray),i6 0]) ?_ 3 _ rfl;refine blk_put (cs:=#[i6 aH,i6 aJ,i6 0,i6 0,i6 0,i6 0,i6 0,i6 0,i6 0,.slice none 0 0,.string (⟨#[]⟩:ByteArray),i6 0]) ?_ 2 _ rfl;refine blk_put (cs:=#[i6 aH,i6 0,i6 0,i6 0,i6 0,i6 0,i6 0,i6 0,i6 0,.slice none 0 0,.string (⟨#[]⟩:ByteArray),i6 0]) ?_ 1 _ rfl;refine blk_put (cs:=#[i6 0,i6 0,i6 0,i6 0,i6 0,i6 0,i6 0,i6 0,i6 0,.slice none 0 0,.string (⟨#[]⟩:ByteArray),i6 0]) ?_ 0 _ rfl;exact aF.out) hb);replace HB:=am (below_step (bs12 HB.out bO.out) hb);clear hb)|(go_at_call 6;(with_reducible refine(ententelaw13_awake.calls k  a8 _ ?side1 d5.out).mono ?_);(case side1=> exact WH.below HWH_.out (HB.out));rintro e eB ⟨rfl,hb⟩;replace aB:=am (Kd.R_below (by exact aB.out) hb);replace aK:=am (Kd.R_below (by exact aK.out) hb);replace aA:=am (blk_below aA.out hb);replace aF:=am (blk_below aF.out hb);replace HB:=am (below_step (HB.out) hb);clear hb))
    go_ret
    exact⟨by rfl,HB.out⟩
   ·rw[if_neg c9]at H
    exact absurd H (by simp)
  ·replace c8:=Bool.eq_false_iff.mpr c8
   subst c8
   have H1:(none)=some r:=by rw[if_neg (show ¬ (false=true)by decide)]at H;exact H
   clear H
   have H:=H1
   clear H1
   exact absurd H (by simp)

end Go.Proofs.YtlaeihdldofkcaaGreatDoor.PN

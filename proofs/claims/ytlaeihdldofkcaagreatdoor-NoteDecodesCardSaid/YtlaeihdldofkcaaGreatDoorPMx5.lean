/- The machine side of this seat's laws: plain functions, and proofs that the calls do what they say; written by a program of this session over the translation; no conditions beyond those typed. -/
import Derived.Test.YtlaeihdldofkcaaGreatDoorPMx0
import Derived.Test.YtlaeihdldofkcaaGreatDoorPMx2
import Derived.Test.YtlaeihdldofkcaaGreatDoorPMx3
import Derived.Test.YtlaeihdldofkcaaGreatDoorPMx4
namespace Go.Proofs.YtlaeihdldofkcaaGreatDoor.PN
open Go.RowKit Go.Proofs.YtlaeihdldofkcaaGreatDoorW.PrintWords Go.Proofs.YtlaeihdldofkcaaGreatDoorW.PrintLast Go.Proofs.YtlaeihdldofkcaaGreatDoorW.PrintMore
attribute [local go_sem] max2_int min2_int max_two min_two max_three min_three max_four min_four   -- for this text's walks alone
open List renaming setIfInBounds_toArray → l_a, set_cons_zero → l_z, set_cons_succ → l_s, map_toArray → l_m, map_cons → l_c, map_nil → l_n
set_option linter.unusedVariables false
set_option linter.unusedSimpArgs false

/-! ### note_Decode: function 11 -/
def note_Decode.zero (e:Int):Int×Int×Int×Int×Int×Int×Int×Int×Int×(List S46)×ByteArray×Int×Int:=(0,0,0,0,0,0,0,0,0,[],⟨#[]⟩,0,e)
def note_Decode.f (k:Nat) (a0:ByteArray):Option (Int×Int×Int×Int×Int×Int×Int×Int×Int×(List S46)×ByteArray×Int×Int):=
 (seal_Open.f k a0 0 1).bind fun o=> if o.2.2=0 then(note_reader_frame.f k o.1 0 false).bind fun p=> (if p.2.2.2.2.2.2.2.2.2.2.2.2.2.2=true then some (note_Decode.zero 130)else if p.2.2.2.2.2.2.2.2.2.2.2.2.2.1=(o.1.size:Int)then(if o.2.1=(a0.size:Int)then(note_Frame.f k p.1 p.2.1 p.2.2.1 p.2.2.2.1 p.2.2.2.2.1 p.2.2.2.2.2.1 p.2.2.2.2.2.2.1 p.2.2.2.2.2.2.2.1 p.2.2.2.2.2.2.2.2.1 p.2.2.2.2.2.2.2.2.2.1 p.2.2.2.2.2.2.2.2.2.2.1 p.2.2.2.2.2.2.2.2.2.2.2.1).bind fun e=> (if e=0 then some (p.1,p.2.1,p.2.2.1,p.2.2.2.1,p.2.2.2.2.1,p.2.2.2.2.2.1,p.2.2.2.2.2.2.1,p.2.2.2.2.2.2.2.1,p.2.2.2.2.2.2.2.2.1,p.2.2.2.2.2.2.2.2.2.1,p.2.2.2.2.2.2.2.2.2.2.1,p.2.2.2.2.2.2.2.2.2.2.2.1,0)else some (note_Decode.zero 130))else some (note_Decode.zero 130))else some (note_Decode.zero 130))else some (note_Decode.zero o.2.2)
theorem note_Decode.mono:∀ a0 k,LeO (note_Decode.f k a0) (note_Decode.f (k+1) a0):=by
 intro a0 k
 unfold note_Decode.f
 exact LeO.bind (seal_Open.mono _ _ _ _) (fun o=> LeO.ite (LeO.bind (note_reader_frame.mono _ _ _ _) (fun p=> LeO.ite (LeO.refl _) (LeO.ite (LeO.ite (LeO.bind (note_Frame.mono _ _ _ _ _ _ _ _ _ _ _ _ _) (fun e=> LeO.refl _)) (LeO.refl _)) (LeO.refl _)))) (LeO.refl _))
set_option maxHeartbeats 8000000 in
set_option maxRecDepth 100000 in
theorem note_Decode.calls (k:Nat) (a0:ByteArray) (r1 r2 r3 r4 r5 r6 r7 r8 r9:Int) (r10:List S46) (r11:ByteArray) (r12 r13:Int) (w:World) (hw_:WH w) (h:note_Decode.f k a0=some (r1,r2,r3,r4,r5,r6,r7,r8,r9,r10,r11,r12,r13)) :
  Calls Tryz.prog 11 #[.string a0] w fun e w'=> ∃ v9_:Value,e=.returned (.tuple #[.agg #[i6 r1,i6 r2,i6 r3,i6 r4,i6 r5,i6 r6,i6 r7,i6 r8,i6 r9,v9_,.string r11,i6 r12],i6 r13])∧Kd.R k46 46 w' w.heap.size (fun _=> True) v9_ r10∧Below w.heap.size w w':=by
 have hu1:=Tryz.underlying24
 have hu2:=Tryz.underlying46
 have hu3:=Tryz.underlying26
 have hu4:=Tryz.underlying28
 have hu5:=Tryz.underlying68
 have hu6:=Tryz.underlying66
 have HW:=am hw_
 have HB:=am (Below.refl w.heap.size w)
 unfold note_Decode.f at h
 replace h:=Option.bind_eq_some_iff.1 h
 obtain⟨⟨o1,o2,o3⟩,ho,h⟩:=h
 have HO:=am ho
 clear ho hw_
 by_cases e1:o3=0
 case neg=>
  rw[if_neg e1]at h
  have h1:=Option.some.inj h
  unfold note_Decode.zero at h1
  simp only[Prod.mk.injEq]at h1
  obtain⟨rfl,rfl,rfl,rfl,rfl,rfl,rfl,rfl,rfl,rfl,rfl,rfl,rfl⟩:=h1
  have e2:(o3 !=0)=true:=bne_iff_ne.2 e1
  clear h e1
  go_enter Tryz.func11,Tryz.ntmps11
  go_wp2_with (first|((with_reducible refine gate_dst (N:=2) rfl ?_);refine box_event ?hg (N:=2) ?hd (cs:=#[i6 0,i6 0,i6 0,i6 0,i6 0,i6 0,i6 0,i6 0,i6 0,.slice none 0 0,.string ⟨#[]⟩,i6 0]) (t:=28) ?hr ?_;(case hd=> rfl);(case hg=> rfl);(case hr=> (go_simp;done));intro aE hg cF hbox hb;have a1:=am (below_step (HB.out) hb);have b4:=am (gsz hg HB.out);have aZ:=am hbox;clear HB;have HB:=a1;have b6:=b4;clear a1 b4;clear hb hbox hg;obtain⟨aF,aG,aH,aI,aJ,aK,aL,aM,aN,aO,aP,aQ,aR,aS,aT,aU,aV,aW,aX,aY,aA,aB,aC,aD⟩:=be12 aZ.out)|(go_at_call 29;refine(seal_Open.calls k a0 0 1 o1 o2 o3 _ HO.out).mono ?_;rintro e b8 ⟨rfl,hb⟩;have a1:=am (below_step (HB.out) hb);have m2_:=am (blk_below aZ.out hb);clear HB;have HB:=a1;clear a1 hb;clear aZ aF aG aH aI aJ aK aL aM aN aO aP aQ aR aS aT aU aV aW aX aY aA aB aC aD;have aZ:=m2_;clear m2_;obtain⟨aF,aG,aH,aI,aJ,aK,aL,aM,aN,aO,aP,aQ,aR,aS,aT,aU,aV,aW,aX,aY,aA,aB,aC,aD⟩:=be12 aZ.out)|((with_reducible refine gate_store (t:=28) (p:=2) rfl ?_);refine store_event (t:=28) (p:=2) (v:=?vz_5) (w1:=((((((((((((b8.setCell ⟨aE,0,none⟩ (i6 0)).setCell ⟨aE,1,none⟩ (i6 0)).setCell ⟨aE,2,none⟩ (i6 0)).setCell ⟨aE,3,none⟩ (i6 0)).setCell ⟨aE,4,none⟩ (i6 0)).setCell ⟨aE,5,none⟩ (i6 0)).setCell ⟨aE,6,none⟩ (i6 0)).setCell ⟨aE,7,none⟩ (i6 0)).setCell ⟨aE,8,none⟩ (i6 0)).setCell ⟨aE,9,none⟩ (.slice none 0 0)).setCell ⟨aE,10,none⟩ (.string ⟨#[]⟩)).setCell ⟨aE,11,none⟩ (i6 0))) ?hg ?ho ?hn ?hr ?_;(case ho=> rfl);(case hg=> rfl);(case hn=> rfl);(case hr=> (go_simp;done));intro ws2 hw;have a1:Aside0 (Below w.heap.size w ws2):=⟨by rw[hw];exact(bs12 HB.out b6.out)⟩;have bX:Aside0 (ws2.heap[aE]?=some (.cells #[i6 0,i6 0,i6 0,i6 0,i6 0,i6 0,i6 0,i6 0,i6 0,.slice none 0 0,.string ⟨#[]⟩,i6 0] 28 (0,0))):=⟨by rw[hw];exact(blk_put (cs':=#[i6 0,i6 0,i6 0,i6 0,i6 0,i6 0,i6 0,i6 0,i6 0,.slice none 0 0,.string ⟨#[]⟩,i6 0]) (blk_put (cs':=#[i6 0,i6 0,i6 0,i6 0,i6 0,i6 0,i6 0,i6 0,i6 0,.slice none 0 0,.string ⟨#[]⟩,i6 0]) (blk_put (cs':=#[i6 0,i6 0,i6 0,i6 0,i6 0,i6 0,i6 0,i6 0,i6 0,.slice none 0 0,.string ⟨#[]⟩,i6 0]) (blk_put (cs':=#[i6 0,i6 0,i6 0,i6 0,i6 0,i6 0,i6 0,i6 0,i6 0,.slice none 0 0,.string ⟨#[]⟩,i6 0]) (blk_put (cs':=#[i6 0,i6 0,i6 0,i6 0,i6 0,i6 0,i6 0,i6 0,i6 0,.slice none 0 0,.string ⟨#[]⟩,i6 0]) (blk_put (cs':=#[i6 0,i6 0,i6 0,i6 0,i6 0,i6 0,i6 0,i6 0,i6 0,.slice none 0 0,.string ⟨#[]⟩,i6 0]) (blk_put (cs':=#[i6 0,i6 0,i6 0,i6 0,i6 0,i6 0,i6 0,i6 0,i6 0,.slice none 0 0,.string ⟨#[]⟩,i6 0]) (blk_put (cs':=#[i6 0,i6 0,i6 0,i6 0,i6 0,i6 0,i6 0,i6 0,i6 0,.slice none 0 0,.string ⟨#[]⟩,i6 0]) (blk_put (cs':=#[i6 0,i6 0,i6 0,i6 0,i6 0,i6 0,i6 0,i6 0,i6 0,.slice none 0 0,.string ⟨#[]⟩,i6 0]) (blk_put (cs':=#[i6 0,i6 0,i6 0,i6 0,i6 0,i6 0,i6 0,i6 0,i6 0,.slice none 0 0,.string ⟨#[]⟩,i6 0]) (blk_put (cs':=#[i6 0,i6 0,i6 0,i6 0,i6 0,i6 0,i6 0,i6 0,i6 0,.slice none 0 0,.string ⟨#[]⟩,i6 0]) (blk_put (cs':=#[i6 0,i6 0,i6 0,i6 0,i6 0,i6 0,i6 0,i6 0,i6 0,.slice none 0 0,.string ⟨#[]⟩,i6 0]) aZ.out 0 (i6 0) rfl) 1 (i6 0) rfl) 2 (i6 0) rfl) 3 (i6 0) rfl) 4 (i6 0) rfl) 5 (i6 0) rfl) 6 (i6 0) rfl) 7 (i6 0) rfl) 8 (i6 0) rfl) 9 (.slice none 0 0) rfl) 10 (.string ⟨#[]⟩) rfl) 11 (i6 0) rfl)⟩;clear hw HB;have HB:=a1;clear aZ aF aG aH aI aJ aK aL aM aN aO aP aQ aR aS aT aU aV aW aX aY aA aB aC aD;have aZ:=bX;clear a1 bX;obtain⟨aF,aG,aH,aI,aJ,aK,aL,aM,aN,aO,aP,aQ,aR,aS,aT,aU,aV,aW,aX,aY,aA,aB,aC,aD⟩:=be12 aZ.out))
  exact bodyPost_ret (results_ct rfl _ _ aE 28 _ (0,0) _ rfl aZ.out Tryz.underlying28 rfl (by kernel_rfl)) rfl ⟨_,rfl,Kd.R_nil _ _ _ _ _,(HB.out)⟩
 rw[if_pos e1]at h
 have e1':o3=0:=e1
 subst e1'
 replace h:=Option.bind_eq_some_iff.1 h
 obtain⟨⟨p1,p2,p3,p4,p5,p6,p7,p8,p9,bC,b0,b2,cB,b7,b9⟩,hp,h⟩:=h
 have HP:=am hp
 replace h:(if b9=true then some (note_Decode.zero 130)else if b7=(o1.size:Int)then(if o2=(a0.size:Int)then(note_Frame.f k p1 p2 p3 p4 p5 p6 p7 p8 p9 bC b0 b2).bind fun e=> (if e=0 then some (p1,p2,p3,p4,p5,p6,p7,p8,p9,bC,b0,b2,0)else some (note_Decode.zero 130))else some (note_Decode.zero 130))else some (note_Decode.zero 130))=some (r1,r2,r3,r4,r5,r6,r7,r8,r9,r10,r11,r12,r13):=h
 clear hp e1
 go_enter Tryz.func11,Tryz.ntmps11
 go_upto_region 6 with(first|((with_reducible refine gate_dst (N:=2) rfl ?_);refine box_event ?hg (N:=2) ?hd (cs:=#[i6 0,i6 0,i6 0,i6 0,i6 0,i6 0,i6 0,i6 0,i6 0,.slice none 0 0,.string ⟨#[]⟩,i6 0]) (t:=28) ?hr ?_;(case hd=> rfl);(case hg=> rfl);(case hr=> (go_simp;done));intro aE hg cF hbox hb;have a1:=am (below_step (HB.out) hb);have b4:=am (gsz hg HB.out);have aZ:=am hbox;clear HB;have HB:=a1;have b6:=b4;clear a1 b4;clear hb hbox hg;obtain⟨aF,aG,aH,aI,aJ,aK,aL,aM,aN,aO,aP,aQ,aR,aS,aT,aU,aV,aW,aX,aY,aA,aB,aC,aD⟩:=be12 aZ.out)|(go_at_call 29;refine(seal_Open.calls k a0 0 1 o1 o2 0 _ HO.out).mono ?_;rintro e b8 ⟨rfl,hb⟩;have a1:=am (below_step (HB.out) hb);have m2_:=am (blk_below aZ.out hb);clear HB;have HB:=a1;clear a1 hb;clear aZ aF aG aH aI aJ aK aL aM aN aO aP aQ aR aS aT aU aV aW aX aY aA aB aC aD;have aZ:=m2_;clear m2_;obtain⟨aF,aG,aH,aI,aJ,aK,aL,aM,aN,aO,aP,aQ,aR,aS,aT,aU,aV,aW,aX,aY,aA,aB,aC,aD⟩:=be12 aZ.out)|((with_reducible refine gate_dst (N:=22) rfl ?_);refine box_event ?hg (N:=22) ?hd (cs:=#[.string o1,i6 0,.bool false]) (t:=68) ?hr ?_;(case hd=> rfl);(case hg=> rfl);(case hr=> (go_simp;done));intro cA hg cI hbox hb;have a1:=am (below_step (HB.out) hb);have b4:=am (gsz hg HB.out);have NE2_7:aE≠cA:=(by rw[hg];exact Nat.ne_of_lt (blk_lt aZ.out));have NE7_2:=Ne.symm NE2_7;have m2_:=am (blk_below aZ.out hb);have bY:=am hbox;clear HB;have HB:=a1;have cG:=b4;clear a1 b4;clear hb hbox hg;clear aZ aF aG aH aI aJ aK aL aM aN aO aP aQ aR aS aT aU aV aW aX aY aA aB aC aD;have aZ:=m2_;clear m2_;obtain⟨aF,aG,aH,aI,aJ,aK,aL,aM,aN,aO,aP,aQ,aR,aS,aT,aU,aV,aW,aX,aY,aA,aB,aC,aD⟩:=be12 aZ.out;obtain⟨a6,a7,a8,a9,bA,bB⟩:=be3 bY.out)|(go_at_call 30;refine(note_reader_frame.calls k cA o1 0 false p1 p2 p3 p4 p5 p6 p7 p8 p9 bC b0 b2 cB b7 b9 w _ ⟨bY.out,cG.out⟩ HB.out HW.out HP.out).mono ?_;rintro e wf ⟨v9,rfl,hR9,hI7,hB7,hK7⟩;obtain⟨A9,c9,e9⟩:=Kd.R_slice hR9;subst e9;have a1:=am hB7;have bX:=am (Kd.R_lower hR9 HB.out.size);have cC:Aside0 (wf.heap[aE]?=some (.cells #[i6 0,i6 0,i6 0,i6 0,i6 0,i6 0,i6 0,i6 0,i6 0,.slice none 0 0,.string ⟨#[]⟩,i6 0] 28 (0,0))):=⟨(hK7.2 aE (blk_lt aZ.out) NE2_7 (by simp)).trans aZ.out⟩;have cD:=am hI7.1;clear hR9 hI7 hB7 hK7 HB aZ bY aF aG aH aI aJ aK aL aM aN aO aP aQ aR aS aT aU aV aW aX aY aA aB aC aD a6 a7 a8 a9 bA bB;have HB:=a1;have bZ:=bX;have aZ:=cC;have bY:=cD;clear a1 bX cC cD;obtain⟨a6,a7,a8,a9,bA,bB⟩:=be3 bY.out;obtain⟨aF,aG,aH,aI,aJ,aK,aL,aM,aN,aO,aP,aQ,aR,aS,aT,aU,aV,aW,aX,aY,aA,aB,aC,aD⟩:=be12 aZ.out)|((with_reducible refine gate_dst (N:=8) rfl ?_);refine box_event ?hg (N:=8) ?hd (cs:=#[i6 0,i6 0,i6 0,i6 0,i6 0,i6 0,i6 0,i6 0,i6 0,.slice none 0 0,.string ⟨#[]⟩,i6 0]) (t:=28) ?hr ?_;(case hd=> rfl);(case hg=> rfl);(case hr=> (go_simp;done));intro b3 hg cE hbox hb;have a1:=am (below_step (HB.out) hb);have b4:=am (gsz hg HB.out);have NE2_8:aE≠b3:=(by rw[hg];exact Nat.ne_of_lt (blk_lt aZ.out));have NE8_2:=Ne.symm NE2_8;have NE7_8:cA≠b3:=(by rw[hg];exact Nat.ne_of_lt (blk_lt bY.out));have NE8_7:=Ne.symm NE7_8;have m2_:=am (blk_below aZ.out hb);have m7_:=am (blk_below bY.out hb);have mHO9_:Aside0 (Kd.R k46 46 cE w.heap.size (fun _=> True) (.slice A9 bC.length c9) bC):=⟨Kd.R_below (by exact bZ.out) hb⟩;clear bZ;have bZ:=mHO9_;clear mHO9_;have b1:=am hbox;clear HB;have HB:=a1;have cH:=b4;clear a1 b4;clear hb hbox hg;clear aZ aF aG aH aI aJ aK aL aM aN aO aP aQ aR aS aT aU aV aW aX aY aA aB aC aD;have aZ:=m2_;clear m2_;obtain⟨aF,aG,aH,aI,aJ,aK,aL,aM,aN,aO,aP,aQ,aR,aS,aT,aU,aV,aW,aX,aY,aA,aB,aC,aD⟩:=be12 aZ.out;clear bY a6 a7 a8 a9 bA bB;have bY:=m7_;clear m7_;obtain⟨a6,a7,a8,a9,bA,bB⟩:=be3 bY.out;obtain⟨bD,bE,bF,bG,bH,bI,bJ,bK,bL,bM,bN,bO,bP,bQ,bR,bS,bT,bU,bV,bW,a2,a3,a4,a5⟩:=be12 b1.out)|((with_reducible refine gate_store (t:=28) (p:=8) rfl ?_);refine store_event (t:=28) (p:=8) (v:=?vz_6) (w1:=((((((((((((cE.setCell ⟨b3,0,none⟩ (i6 p1)).setCell ⟨b3,1,none⟩ (i6 p2)).setCell ⟨b3,2,none⟩ (i6 p3)).setCell ⟨b3,3,none⟩ (i6 p4)).setCell ⟨b3,4,none⟩ (i6 p5)).setCell ⟨b3,5,none⟩ (i6 p6)).setCell ⟨b3,6,none⟩ (i6 p7)).setCell ⟨b3,7,none⟩ (i6 p8)).setCell ⟨b3,8,none⟩ (i6 p9)).setCell ⟨b3,9,none⟩ (.slice A9 bC.length c9)).setCell ⟨b3,10,none⟩ (.string b0)).setCell ⟨b3,11,none⟩ (i6 b2))) ?hg ?ho ?hn ?hr ?_;(case ho=> rfl);(case hg=> rfl);(case hn=> rfl);(case hr=> (go_simp;done));intro ws8 hw;have a1:Aside0 (Below w.heap.size w ws8):=⟨by rw[hw];exact(bs12 HB.out cH.out)⟩;have bX:Aside0 (ws8.heap[b3]?=some (.cells #[i6 p1,i6 p2,i6 p3,i6 p4,i6 p5,i6 p6,i6 p7,i6 p8,i6 p9,.slice A9 bC.length c9,.string b0,i6 b2] 28 (0,0))):=⟨by rw[hw];exact(blk_put (cs':=#[i6 p1,i6 p2,i6 p3,i6 p4,i6 p5,i6 p6,i6 p7,i6 p8,i6 p9,.slice A9 bC.length c9,.string b0,i6 b2]) (blk_put (cs':=#[i6 p1,i6 p2,i6 p3,i6 p4,i6 p5,i6 p6,i6 p7,i6 p8,i6 p9,.slice A9 bC.length c9,.string b0,i6 0]) (blk_put (cs':=#[i6 p1,i6 p2,i6 p3,i6 p4,i6 p5,i6 p6,i6 p7,i6 p8,i6 p9,.slice A9 bC.length c9,.string ⟨#[]⟩,i6 0]) (blk_put (cs':=#[i6 p1,i6 p2,i6 p3,i6 p4,i6 p5,i6 p6,i6 p7,i6 p8,i6 p9,.slice none 0 0,.string ⟨#[]⟩,i6 0]) (blk_put (cs':=#[i6 p1,i6 p2,i6 p3,i6 p4,i6 p5,i6 p6,i6 p7,i6 p8,i6 0,.slice none 0 0,.string ⟨#[]⟩,i6 0]) (blk_put (cs':=#[i6 p1,i6 p2,i6 p3,i6 p4,i6 p5,i6 p6,i6 p7,i6 0,i6 0,.slice none 0 0,.string ⟨#[]⟩,i6 0]) (blk_put (cs':=#[i6 p1,i6 p2,i6 p3,i6 p4,i6 p5,i6 p6,i6 0,i6 0,i6 0,.slice none 0 0,.string ⟨#[]⟩,i6 0]) (blk_put (cs':=#[i6 p1,i6 p2,i6 p3,i6 p4,i6 p5,i6 0,i6 0,i6 0,i6 0,.slice none 0 0,.string ⟨#[]⟩,i6 0]) (blk_put (cs':=#[i6 p1,i6 p2,i6 p3,i6 p4,i6 0,i6 0,i6 0,i6 0,i6 0,.slice none 0 0,.string ⟨#[]⟩,i6 0]) (blk_put (cs':=#[i6 p1,i6 p2,i6 p3,i6 0,i6 0,i6 0,i6 0,i6 0,i6 0,.slice none 0 0,.string ⟨#[]⟩,i6 0]) (blk_put (cs':=#[i6 p1,i6 p2,i6 0,i6 0,i6 0,i6 0,i6 0,i6 0,i6 0,.slice none 0 0,.string ⟨#[]⟩,i6 0]) (blk_put (cs':=#[i6 p1,i6 0,i6 0,i6 0,i6 0,i6 0,i6 0,i6 0,i6 0,.slice none 0 0,.string ⟨#[]⟩,i6 0]) b1.out 0 (i6 p1) rfl) 1 (i6 p2) rfl) 2 (i6 p3) rfl) 3 (i6 p4) rfl) 4 (i6 p5) rfl) 5 (i6 p6) rfl) 6 (i6 p7) rfl) 7 (i6 p8) rfl) 8 (i6 p9) rfl) 9 (.slice A9 bC.length c9) rfl) 10 (.string b0) rfl) 11 (i6 b2) rfl)⟩;have m2_:Aside0 (ws8.heap[aE]?=some (.cells #[i6 0,i6 0,i6 0,i6 0,i6 0,i6 0,i6 0,i6 0,i6 0,.slice none 0 0,.string ⟨#[]⟩,i6 0] 28 (0,0))):=⟨by rw[hw];exact(blk_far (blk_far (blk_far (blk_far (blk_far (blk_far (blk_far (blk_far (blk_far (blk_far (blk_far (blk_far aZ.out NE2_8 (i6 p1)) NE2_8 (i6 p2)) NE2_8 (i6 p3)) NE2_8 (i6 p4)) NE2_8 (i6 p5)) NE2_8 (i6 p6)) NE2_8 (i6 p7)) NE2_8 (i6 p8)) NE2_8 (i6 p9)) NE2_8 (.slice A9 bC.length c9)) NE2_8 (.string b0)) NE2_8 (i6 b2))⟩;have m7_:Aside0 (ws8.heap[cA]?=some (.cells #[.string cB,i6 b7,.bool b9] 68 (0,0))):=⟨by rw[hw];exact(blk_far (blk_far (blk_far (blk_far (blk_far (blk_far (blk_far (blk_far (blk_far (blk_far (blk_far (blk_far bY.out NE7_8 (i6 p1)) NE7_8 (i6 p2)) NE7_8 (i6 p3)) NE7_8 (i6 p4)) NE7_8 (i6 p5)) NE7_8 (i6 p6)) NE7_8 (i6 p7)) NE7_8 (i6 p8)) NE7_8 (i6 p9)) NE7_8 (.slice A9 bC.length c9)) NE7_8 (.string b0)) NE7_8 (i6 b2))⟩;have mHO9_:Aside0 (Kd.R k46 46 ws8 w.heap.size (fun _=> True) (.slice A9 bC.length c9) bC):=⟨by rw[hw];exact Kd.R_mono (rf (rf (rf (rf (rf (rf (rf (rf (rf (rf (rf (rf (Kd.R_types bZ.out b1.out (by decide)))))))))))))) (fun _ hk=> hk.1)⟩;clear hw HB;have HB:=a1;clear b1 bD bE bF bG bH bI bJ bK bL bM bN bO bP bQ bR bS bT bU bV bW a2 a3 a4 a5;have b1:=bX;clear a1 bX;clear aZ aF aG aH aI aJ aK aL aM aN aO aP aQ aR aS aT aU aV aW aX aY aA aB aC aD;have aZ:=m2_;clear m2_;obtain⟨aF,aG,aH,aI,aJ,aK,aL,aM,aN,aO,aP,aQ,aR,aS,aT,aU,aV,aW,aX,aY,aA,aB,aC,aD⟩:=be12 aZ.out;clear bY a6 a7 a8 a9 bA bB;have bY:=m7_;clear m7_;obtain⟨a6,a7,a8,a9,bA,bB⟩:=be3 bY.out;clear bZ;have bZ:=mHO9_;clear mHO9_;obtain⟨bD,bE,bF,bG,bH,bI,bJ,bK,bL,bM,bN,bO,bP,bQ,bR,bS,bT,bU,bV,bW,a2,a3,a4,a5⟩:=be12 b1.out))
 cases b9 with
 |true=>
  rw[if_pos rfl]at h
  have h1:=Option.some.inj h
  unfold note_Decode.zero at h1
  simp only[Prod.mk.injEq]at h1
  obtain⟨rfl,rfl,rfl,rfl,rfl,rfl,rfl,rfl,rfl,rfl,rfl,rfl,rfl⟩:=h1
  clear h
  go_wp2_with (first|((with_reducible refine gate_store (t:=28) (p:=2) rfl ?_);refine store_event (t:=28) (p:=2) (v:=?vz_7) (w1:=((((((((((((ws8.setCell ⟨aE,0,none⟩ (i6 0)).setCell ⟨aE,1,none⟩ (i6 0)).setCell ⟨aE,2,none⟩ (i6 0)).setCell ⟨aE,3,none⟩ (i6 0)).setCell ⟨aE,4,none⟩ (i6 0)).setCell ⟨aE,5,none⟩ (i6 0)).setCell ⟨aE,6,none⟩ (i6 0)).setCell ⟨aE,7,none⟩ (i6 0)).setCell ⟨aE,8,none⟩ (i6 0)).setCell ⟨aE,9,none⟩ (.slice none 0 0)).setCell ⟨aE,10,none⟩ (.string ⟨#[]⟩)).setCell ⟨aE,11,none⟩ (i6 0))) ?hg ?ho ?hn ?hr ?_;(case ho=> rfl);(case hg=> rfl);(case hn=> rfl);(case hr=> (go_simp;done));intro ws2 hw;have a1:Aside0 (Below w.heap.size w ws2):=⟨by rw[hw];exact(bs12 HB.out b6.out)⟩;have bX:Aside0 (ws2.heap[aE]?=some (.cells #[i6 0,i6 0,i6 0,i6 0,i6 0,i6 0,i6 0,i6 0,i6 0,.slice none 0 0,.string ⟨#[]⟩,i6 0] 28 (0,0))):=⟨by rw[hw];exact(blk_put (cs':=#[i6 0,i6 0,i6 0,i6 0,i6 0,i6 0,i6 0,i6 0,i6 0,.slice none 0 0,.string ⟨#[]⟩,i6 0]) (blk_put (cs':=#[i6 0,i6 0,i6 0,i6 0,i6 0,i6 0,i6 0,i6 0,i6 0,.slice none 0 0,.string ⟨#[]⟩,i6 0]) (blk_put (cs':=#[i6 0,i6 0,i6 0,i6 0,i6 0,i6 0,i6 0,i6 0,i6 0,.slice none 0 0,.string ⟨#[]⟩,i6 0]) (blk_put (cs':=#[i6 0,i6 0,i6 0,i6 0,i6 0,i6 0,i6 0,i6 0,i6 0,.slice none 0 0,.string ⟨#[]⟩,i6 0]) (blk_put (cs':=#[i6 0,i6 0,i6 0,i6 0,i6 0,i6 0,i6 0,i6 0,i6 0,.slice none 0 0,.string ⟨#[]⟩,i6 0]) (blk_put (cs':=#[i6 0,i6 0,i6 0,i6 0,i6 0,i6 0,i6 0,i6 0,i6 0,.slice none 0 0,.string ⟨#[]⟩,i6 0]) (blk_put (cs':=#[i6 0,i6 0,i6 0,i6 0,i6 0,i6 0,i6 0,i6 0,i6 0,.slice none 0 0,.string ⟨#[]⟩,i6 0]) (blk_put (cs':=#[i6 0,i6 0,i6 0,i6 0,i6 0,i6 0,i6 0,i6 0,i6 0,.slice none 0 0,.string ⟨#[]⟩,i6 0]) (blk_put (cs':=#[i6 0,i6 0,i6 0,i6 0,i6 0,i6 0,i6 0,i6 0,i6 0,.slice none 0 0,.string ⟨#[]⟩,i6 0]) (blk_put (cs':=#[i6 0,i6 0,i6 0,i6 0,i6 0,i6 0,i6 0,i6 0,i6 0,.slice none 0 0,.string ⟨#[]⟩,i6 0]) (blk_put (cs':=#[i6 0,i6 0,i6 0,i6 0,i6 0,i6 0,i6 0,i6 0,i6 0,.slice none 0 0,.string ⟨#[]⟩,i6 0]) (blk_put (cs':=#[i6 0,i6 0,i6 0,i6 0,i6 0,i6 0,i6 0,i6 0,i6 0,.slice none 0 0,.string ⟨#[]⟩,i6 0]) aZ.out 0 (i6 0) rfl) 1 (i6 0) rfl) 2 (i6 0) rfl) 3 (i6 0) rfl) 4 (i6 0) rfl) 5 (i6 0) rfl) 6 (i6 0) rfl) 7 (i6 0) rfl) 8 (i6 0) rfl) 9 (.slice none 0 0) rfl) 10 (.string ⟨#[]⟩) rfl) 11 (i6 0) rfl)⟩;clear hw HB;have HB:=a1;clear aZ aF aG aH aI aJ aK aL aM aN aO aP aQ aR aS aT aU aV aW aX aY aA aB aC aD;have aZ:=bX;clear a1 bX;obtain⟨aF,aG,aH,aI,aJ,aK,aL,aM,aN,aO,aP,aQ,aR,aS,aT,aU,aV,aW,aX,aY,aA,aB,aC,aD⟩:=be12 aZ.out))
  exact bodyPost_ret (results_ct rfl _ _ aE 28 _ (0,0) _ rfl aZ.out Tryz.underlying28 rfl (by kernel_rfl)) rfl ⟨_,rfl,Kd.R_nil _ _ _ _ _,(HB.out)⟩
 |false=>
 rw[if_neg (by decide)]at h
 by_cases f1:b7=(o1.size:Int)
 case neg=>
  rw[if_neg f1]at h
  have f1b:(b7 !=(o1.size:Int))=true:=bne_iff_ne.2 f1
  clear f1
  have h1:=Option.some.inj h
  unfold note_Decode.zero at h1
  simp only[Prod.mk.injEq]at h1
  obtain⟨rfl,rfl,rfl,rfl,rfl,rfl,rfl,rfl,rfl,rfl,rfl,rfl,rfl⟩:=h1
  clear h
  go_wp2_with (first|((with_reducible refine gate_store (t:=28) (p:=2) rfl ?_);refine store_event (t:=28) (p:=2) (v:=?vz_8) (w1:=((((((((((((ws8.setCell ⟨aE,0,none⟩ (i6 0)).setCell ⟨aE,1,none⟩ (i6 0)).setCell ⟨aE,2,none⟩ (i6 0)).setCell ⟨aE,3,none⟩ (i6 0)).setCell ⟨aE,4,none⟩ (i6 0)).setCell ⟨aE,5,none⟩ (i6 0)).setCell ⟨aE,6,none⟩ (i6 0)).setCell ⟨aE,7,none⟩ (i6 0)).setCell ⟨aE,8,none⟩ (i6 0)).setCell ⟨aE,9,none⟩ (.slice none 0 0)).setCell ⟨aE,10,none⟩ (.string ⟨#[]⟩)).setCell ⟨aE,11,none⟩ (i6 0))) ?hg ?ho ?hn ?hr ?_;(case ho=> rfl);(case hg=> rfl);(case hn=> rfl);(case hr=> (go_simp;done));intro ws2 hw;have a1:Aside0 (Below w.heap.size w ws2):=⟨by rw[hw];exact(bs12 HB.out b6.out)⟩;have bX:Aside0 (ws2.heap[aE]?=some (.cells #[i6 0,i6 0,i6 0,i6 0,i6 0,i6 0,i6 0,i6 0,i6 0,.slice none 0 0,.string ⟨#[]⟩,i6 0] 28 (0,0))):=⟨by rw[hw];exact(blk_put (cs':=#[i6 0,i6 0,i6 0,i6 0,i6 0,i6 0,i6 0,i6 0,i6 0,.slice none 0 0,.string ⟨#[]⟩,i6 0]) (blk_put (cs':=#[i6 0,i6 0,i6 0,i6 0,i6 0,i6 0,i6 0,i6 0,i6 0,.slice none 0 0,.string ⟨#[]⟩,i6 0]) (blk_put (cs':=#[i6 0,i6 0,i6 0,i6 0,i6 0,i6 0,i6 0,i6 0,i6 0,.slice none 0 0,.string ⟨#[]⟩,i6 0]) (blk_put (cs':=#[i6 0,i6 0,i6 0,i6 0,i6 0,i6 0,i6 0,i6 0,i6 0,.slice none 0 0,.string ⟨#[]⟩,i6 0]) (blk_put (cs':=#[i6 0,i6 0,i6 0,i6 0,i6 0,i6 0,i6 0,i6 0,i6 0,.slice none 0 0,.string ⟨#[]⟩,i6 0]) (blk_put (cs':=#[i6 0,i6 0,i6 0,i6 0,i6 0,i6 0,i6 0,i6 0,i6 0,.slice none 0 0,.string ⟨#[]⟩,i6 0]) (blk_put (cs':=#[i6 0,i6 0,i6 0,i6 0,i6 0,i6 0,i6 0,i6 0,i6 0,.slice none 0 0,.string ⟨#[]⟩,i6 0]) (blk_put (cs':=#[i6 0,i6 0,i6 0,i6 0,i6 0,i6 0,i6 0,i6 0,i6 0,.slice none 0 0,.string ⟨#[]⟩,i6 0]) (blk_put (cs':=#[i6 0,i6 0,i6 0,i6 0,i6 0,i6 0,i6 0,i6 0,i6 0,.slice none 0 0,.string ⟨#[]⟩,i6 0]) (blk_put (cs':=#[i6 0,i6 0,i6 0,i6 0,i6 0,i6 0,i6 0,i6 0,i6 0,.slice none 0 0,.string ⟨#[]⟩,i6 0]) (blk_put (cs':=#[i6 0,i6 0,i6 0,i6 0,i6 0,i6 0,i6 0,i6 0,i6 0,.slice none 0 0,.string ⟨#[]⟩,i6 0]) (blk_put (cs':=#[i6 0,i6 0,i6 0,i6 0,i6 0,i6 0,i6 0,i6 0,i6 0,.slice none 0 0,.string ⟨#[]⟩,i6 0]) aZ.out 0 (i6 0) rfl) 1 (i6 0) rfl) 2 (i6 0) rfl) 3 (i6 0) rfl) 4 (i6 0) rfl) 5 (i6 0) rfl) 6 (i6 0) rfl) 7 (i6 0) rfl) 8 (i6 0) rfl) 9 (.slice none 0 0) rfl) 10 (.string ⟨#[]⟩) rfl) 11 (i6 0) rfl)⟩;clear hw HB;have HB:=a1;clear aZ aF aG aH aI aJ aK aL aM aN aO aP aQ aR aS aT aU aV aW aX aY aA aB aC aD;have aZ:=bX;clear a1 bX;obtain⟨aF,aG,aH,aI,aJ,aK,aL,aM,aN,aO,aP,aQ,aR,aS,aT,aU,aV,aW,aX,aY,aA,aB,aC,aD⟩:=be12 aZ.out))
  exact bodyPost_ret (results_ct rfl _ _ aE 28 _ (0,0) _ rfl aZ.out Tryz.underlying28 rfl (by kernel_rfl)) rfl ⟨_,rfl,Kd.R_nil _ _ _ _ _,(HB.out)⟩
 rw[if_pos f1]at h
 have f1b:(b7 !=(o1.size:Int))=false:=bne_eq_false_iff_eq.2 f1
 clear f1
 by_cases f2:o2=(a0.size:Int)
 case neg=>
  rw[if_neg f2]at h
  have f2b:(o2 !=(a0.size:Int))=true:=bne_iff_ne.2 f2
  clear f2
  have h1:=Option.some.inj h
  unfold note_Decode.zero at h1
  simp only[Prod.mk.injEq]at h1
  obtain⟨rfl,rfl,rfl,rfl,rfl,rfl,rfl,rfl,rfl,rfl,rfl,rfl,rfl⟩:=h1
  clear h
  go_wp2_with (first|((with_reducible refine gate_store (t:=28) (p:=2) rfl ?_);refine store_event (t:=28) (p:=2) (v:=?vz_9) (w1:=((((((((((((ws8.setCell ⟨aE,0,none⟩ (i6 0)).setCell ⟨aE,1,none⟩ (i6 0)).setCell ⟨aE,2,none⟩ (i6 0)).setCell ⟨aE,3,none⟩ (i6 0)).setCell ⟨aE,4,none⟩ (i6 0)).setCell ⟨aE,5,none⟩ (i6 0)).setCell ⟨aE,6,none⟩ (i6 0)).setCell ⟨aE,7,none⟩ (i6 0)).setCell ⟨aE,8,none⟩ (i6 0)).setCell ⟨aE,9,none⟩ (.slice none 0 0)).setCell ⟨aE,10,none⟩ (.string ⟨#[]⟩)).setCell ⟨aE,11,none⟩ (i6 0))) ?hg ?ho ?hn ?hr ?_;(case ho=> rfl);(case hg=> rfl);(case hn=> rfl);(case hr=> (go_simp;done));intro ws2 hw;have a1:Aside0 (Below w.heap.size w ws2):=⟨by rw[hw];exact(bs12 HB.out b6.out)⟩;have bX:Aside0 (ws2.heap[aE]?=some (.cells #[i6 0,i6 0,i6 0,i6 0,i6 0,i6 0,i6 0,i6 0,i6 0,.slice none 0 0,.string ⟨#[]⟩,i6 0] 28 (0,0))):=⟨by rw[hw];exact(blk_put (cs':=#[i6 0,i6 0,i6 0,i6 0,i6 0,i6 0,i6 0,i6 0,i6 0,.slice none 0 0,.string ⟨#[]⟩,i6 0]) (blk_put (cs':=#[i6 0,i6 0,i6 0,i6 0,i6 0,i6 0,i6 0,i6 0,i6 0,.slice none 0 0,.string ⟨#[]⟩,i6 0]) (blk_put (cs':=#[i6 0,i6 0,i6 0,i6 0,i6 0,i6 0,i6 0,i6 0,i6 0,.slice none 0 0,.string ⟨#[]⟩,i6 0]) (blk_put (cs':=#[i6 0,i6 0,i6 0,i6 0,i6 0,i6 0,i6 0,i6 0,i6 0,.slice none 0 0,.string ⟨#[]⟩,i6 0]) (blk_put (cs':=#[i6 0,i6 0,i6 0,i6 0,i6 0,i6 0,i6 0,i6 0,i6 0,.slice none 0 0,.string ⟨#[]⟩,i6 0]) (blk_put (cs':=#[i6 0,i6 0,i6 0,i6 0,i6 0,i6 0,i6 0,i6 0,i6 0,.slice none 0 0,.string ⟨#[]⟩,i6 0]) (blk_put (cs':=#[i6 0,i6 0,i6 0,i6 0,i6 0,i6 0,i6 0,i6 0,i6 0,.slice none 0 0,.string ⟨#[]⟩,i6 0]) (blk_put (cs':=#[i6 0,i6 0,i6 0,i6 0,i6 0,i6 0,i6 0,i6 0,i6 0,.slice none 0 0,.string ⟨#[]⟩,i6 0]) (blk_put (cs':=#[i6 0,i6 0,i6 0,i6 0,i6 0,i6 0,i6 0,i6 0,i6 0,.slice none 0 0,.string ⟨#[]⟩,i6 0]) (blk_put (cs':=#[i6 0,i6 0,i6 0,i6 0,i6 0,i6 0,i6 0,i6 0,i6 0,.slice none 0 0,.string ⟨#[]⟩,i6 0]) (blk_put (cs':=#[i6 0,i6 0,i6 0,i6 0,i6 0,i6 0,i6 0,i6 0,i6 0,.slice none 0 0,.string ⟨#[]⟩,i6 0]) (blk_put (cs':=#[i6 0,i6 0,i6 0,i6 0,i6 0,i6 0,i6 0,i6 0,i6 0,.slice none 0 0,.string ⟨#[]⟩,i6 0]) aZ.out 0 (i6 0) rfl) 1 (i6 0) rfl) 2 (i6 0) rfl) 3 (i6 0) rfl) 4 (i6 0) rfl) 5 (i6 0) rfl) 6 (i6 0) rfl) 7 (i6 0) rfl) 8 (i6 0) rfl) 9 (.slice none 0 0) rfl) 10 (.string ⟨#[]⟩) rfl) 11 (i6 0) rfl)⟩;clear hw HB;have HB:=a1;clear aZ aF aG aH aI aJ aK aL aM aN aO aP aQ aR aS aT aU aV aW aX aY aA aB aC aD;have aZ:=bX;clear a1 bX;obtain⟨aF,aG,aH,aI,aJ,aK,aL,aM,aN,aO,aP,aQ,aR,aS,aT,aU,aV,aW,aX,aY,aA,aB,aC,aD⟩:=be12 aZ.out))
  exact bodyPost_ret (results_ct rfl _ _ aE 28 _ (0,0) _ rfl aZ.out Tryz.underlying28 rfl (by kernel_rfl)) rfl ⟨_,rfl,Kd.R_nil _ _ _ _ _,(HB.out)⟩
 rw[if_pos f2]at h
 have f2b:(o2 !=(a0.size:Int))=false:=bne_eq_false_iff_eq.2 f2
 clear f2
 replace h:=Option.bind_eq_some_iff.1 h
 obtain⟨e5,hf,h⟩:=h
 have HF:=am hf
 clear hf
 by_cases f3:e5=0
 case neg=>
  rw[if_neg f3]at h
  have f3b:(e5 !=0)=true:=bne_iff_ne.2 f3
  clear f3
  have h1:=Option.some.inj h
  unfold note_Decode.zero at h1
  simp only[Prod.mk.injEq]at h1
  obtain⟨rfl,rfl,rfl,rfl,rfl,rfl,rfl,rfl,rfl,rfl,rfl,rfl,rfl⟩:=h1
  clear h
  go_wp2_with (first|(go_at_call 9;refine(note_Frame.calls k p1 p2 p3 p4 p5 p6 p7 p8 p9 A9 c9 bC b0 b2 _ _ (Kd.R_reads' bZ.out).2.2 (Kd.R_reads' bZ.out).2.1 HF.out).mono ?_;rintro e b5 ⟨rfl,hb⟩;have a1:=am (below_step (HB.out) hb);have m2_:=am (blk_below aZ.out hb);have m7_:=am (blk_below bY.out hb);have m8_:=am (blk_below b1.out hb);have mHO9_:Aside0 (Kd.R k46 46 b5 w.heap.size (fun _=> True) (.slice A9 bC.length c9) bC):=⟨Kd.R_below (by exact bZ.out) hb⟩;clear bZ;have bZ:=mHO9_;clear mHO9_ HB;have HB:=a1;clear a1 hb;clear aZ aF aG aH aI aJ aK aL aM aN aO aP aQ aR aS aT aU aV aW aX aY aA aB aC aD;have aZ:=m2_;clear m2_;obtain⟨aF,aG,aH,aI,aJ,aK,aL,aM,aN,aO,aP,aQ,aR,aS,aT,aU,aV,aW,aX,aY,aA,aB,aC,aD⟩:=be12 aZ.out;clear bY a6 a7 a8 a9 bA bB;have bY:=m7_;clear m7_;obtain⟨a6,a7,a8,a9,bA,bB⟩:=be3 bY.out;clear b1 bD bE bF bG bH bI bJ bK bL bM bN bO bP bQ bR bS bT bU bV bW a2 a3 a4 a5;have b1:=m8_;clear m8_;obtain⟨bD,bE,bF,bG,bH,bI,bJ,bK,bL,bM,bN,bO,bP,bQ,bR,bS,bT,bU,bV,bW,a2,a3,a4,a5⟩:=be12 b1.out)|((with_reducible refine gate_store (t:=28) (p:=2) rfl ?_);refine store_event (t:=28) (p:=2) (v:=?vz_10) (w1:=((((((((((((b5.setCell ⟨aE,0,none⟩ (i6 0)).setCell ⟨aE,1,none⟩ (i6 0)).setCell ⟨aE,2,none⟩ (i6 0)).setCell ⟨aE,3,none⟩ (i6 0)).setCell ⟨aE,4,none⟩ (i6 0)).setCell ⟨aE,5,none⟩ (i6 0)).setCell ⟨aE,6,none⟩ (i6 0)).setCell ⟨aE,7,none⟩ (i6 0)).setCell ⟨aE,8,none⟩ (i6 0)).setCell ⟨aE,9,none⟩ (.slice none 0 0)).setCell ⟨aE,10,none⟩ (.string ⟨#[]⟩)).setCell ⟨aE,11,none⟩ (i6 0))) ?hg ?ho ?hn ?hr ?_;(case ho=> rfl);(case hg=> rfl);(case hn=> rfl);(case hr=> (go_simp;done));intro ws2 hw;have a1:Aside0 (Below w.heap.size w ws2):=⟨by rw[hw];exact(bs12 HB.out b6.out)⟩;have bX:Aside0 (ws2.heap[aE]?=some (.cells #[i6 0,i6 0,i6 0,i6 0,i6 0,i6 0,i6 0,i6 0,i6 0,.slice none 0 0,.string ⟨#[]⟩,i6 0] 28 (0,0))):=⟨by rw[hw];exact(blk_put (cs':=#[i6 0,i6 0,i6 0,i6 0,i6 0,i6 0,i6 0,i6 0,i6 0,.slice none 0 0,.string ⟨#[]⟩,i6 0]) (blk_put (cs':=#[i6 0,i6 0,i6 0,i6 0,i6 0,i6 0,i6 0,i6 0,i6 0,.slice none 0 0,.string ⟨#[]⟩,i6 0]) (blk_put (cs':=#[i6 0,i6 0,i6 0,i6 0,i6 0,i6 0,i6 0,i6 0,i6 0,.slice none 0 0,.string ⟨#[]⟩,i6 0]) (blk_put (cs':=#[i6 0,i6 0,i6 0,i6 0,i6 0,i6 0,i6 0,i6 0,i6 0,.slice none 0 0,.string ⟨#[]⟩,i6 0]) (blk_put (cs':=#[i6 0,i6 0,i6 0,i6 0,i6 0,i6 0,i6 0,i6 0,i6 0,.slice none 0 0,.string ⟨#[]⟩,i6 0]) (blk_put (cs':=#[i6 0,i6 0,i6 0,i6 0,i6 0,i6 0,i6 0,i6 0,i6 0,.slice none 0 0,.string ⟨#[]⟩,i6 0]) (blk_put (cs':=#[i6 0,i6 0,i6 0,i6 0,i6 0,i6 0,i6 0,i6 0,i6 0,.slice none 0 0,.string ⟨#[]⟩,i6 0]) (blk_put (cs':=#[i6 0,i6 0,i6 0,i6 0,i6 0,i6 0,i6 0,i6 0,i6 0,.slice none 0 0,.string ⟨#[]⟩,i6 0]) (blk_put (cs':=#[i6 0,i6 0,i6 0,i6 0,i6 0,i6 0,i6 0,i6 0,i6 0,.slice none 0 0,.string ⟨#[]⟩,i6 0]) (blk_put (cs':=#[i6 0,i6 0,i6 0,i6 0,i6 0,i6 0,i6 0,i6 0,i6 0,.slice none 0 0,.string ⟨#[]⟩,i6 0]) (blk_put (cs':=#[i6 0,i6 0,i6 0,i6 0,i6 0,i6 0,i6 0,i6 0,i6 0,.slice none 0 0,.string ⟨#[]⟩,i6 0]) (blk_put (cs':=#[i6 0,i6 0,i6 0,i6 0,i6 0,i6 0,i6 0,i6 0,i6 0,.slice none 0 0,.string ⟨#[]⟩,i6 0]) aZ.out 0 (i6 0) rfl) 1 (i6 0) rfl) 2 (i6 0) rfl) 3 (i6 0) rfl) 4 (i6 0) rfl) 5 (i6 0) rfl) 6 (i6 0) rfl) 7 (i6 0) rfl) 8 (i6 0) rfl) 9 (.slice none 0 0) rfl) 10 (.string ⟨#[]⟩) rfl) 11 (i6 0) rfl)⟩;clear hw HB;have HB:=a1;clear aZ aF aG aH aI aJ aK aL aM aN aO aP aQ aR aS aT aU aV aW aX aY aA aB aC aD;have aZ:=bX;clear a1 bX;obtain⟨aF,aG,aH,aI,aJ,aK,aL,aM,aN,aO,aP,aQ,aR,aS,aT,aU,aV,aW,aX,aY,aA,aB,aC,aD⟩:=be12 aZ.out))
  exact bodyPost_ret (results_ct rfl _ _ aE 28 _ (0,0) _ rfl aZ.out Tryz.underlying28 rfl (by kernel_rfl)) rfl ⟨_,rfl,Kd.R_nil _ _ _ _ _,(HB.out)⟩
 rw[if_pos f3]at h
 subst f3
 have h1:=Option.some.inj h
 simp only[Prod.mk.injEq]at h1
 obtain⟨rfl,rfl,rfl,rfl,rfl,rfl,rfl,rfl,rfl,rfl,rfl,rfl,rfl⟩:=h1
 clear h
 go_wp2_with (first|(go_at_call 9;refine(note_Frame.calls k p1 p2 p3 p4 p5 p6 p7 p8 p9 A9 c9 bC b0 b2 _ _ (Kd.R_reads' bZ.out).2.2 (Kd.R_reads' bZ.out).2.1 HF.out).mono ?_;rintro e b5 ⟨rfl,hb⟩;have a1:=am (below_step (HB.out) hb);have m2_:=am (blk_below aZ.out hb);have m7_:=am (blk_below bY.out hb);have m8_:=am (blk_below b1.out hb);have mHO9_:Aside0 (Kd.R k46 46 b5 w.heap.size (fun _=> True) (.slice A9 bC.length c9) bC):=⟨Kd.R_below (by exact bZ.out) hb⟩;clear bZ;have bZ:=mHO9_;clear mHO9_ HB;have HB:=a1;clear a1 hb;clear aZ aF aG aH aI aJ aK aL aM aN aO aP aQ aR aS aT aU aV aW aX aY aA aB aC aD;have aZ:=m2_;clear m2_;obtain⟨aF,aG,aH,aI,aJ,aK,aL,aM,aN,aO,aP,aQ,aR,aS,aT,aU,aV,aW,aX,aY,aA,aB,aC,aD⟩:=be12 aZ.out;clear bY a6 a7 a8 a9 bA bB;have bY:=m7_;clear m7_;obtain⟨a6,a7,a8,a9,bA,bB⟩:=be3 bY.out;clear b1 bD bE bF bG bH bI bJ bK bL bM bN bO bP bQ bR bS bT bU bV bW a2 a3 a4 a5;have b1:=m8_;clear m8_;obtain⟨bD,bE,bF,bG,bH,bI,bJ,bK,bL,bM,bN,bO,bP,bQ,bR,bS,bT,bU,bV,bW,a2,a3,a4,a5⟩:=be12 b1.out)|((with_reducible refine gate_store (t:=28) (p:=2) rfl ?_);refine store_event (t:=28) (p:=2) (v:=?vz_11) (w1:=((((((((((((b5.setCell ⟨aE,0,none⟩ (i6 p1)).setCell ⟨aE,1,none⟩ (i6 p2)).setCell ⟨aE,2,none⟩ (i6 p3)).setCell ⟨aE,3,none⟩ (i6 p4)).setCell ⟨aE,4,none⟩ (i6 p5)).setCell ⟨aE,5,none⟩ (i6 p6)).setCell ⟨aE,6,none⟩ (i6 p7)).setCell ⟨aE,7,none⟩ (i6 p8)).setCell ⟨aE,8,none⟩ (i6 p9)).setCell ⟨aE,9,none⟩ (.slice A9 bC.length c9)).setCell ⟨aE,10,none⟩ (.string b0)).setCell ⟨aE,11,none⟩ (i6 b2))) ?hg ?ho ?hn ?hr ?_;(case ho=> rfl);(case hg=> rfl);(case hn=> rfl);(case hr=> (go_simp;done));intro ws2 hw;have a1:Aside0 (Below w.heap.size w ws2):=⟨by rw[hw];exact(bs12 HB.out b6.out)⟩;have bX:Aside0 (ws2.heap[aE]?=some (.cells #[i6 p1,i6 p2,i6 p3,i6 p4,i6 p5,i6 p6,i6 p7,i6 p8,i6 p9,.slice A9 bC.length c9,.string b0,i6 b2] 28 (0,0))):=⟨by rw[hw];exact(blk_put (cs':=#[i6 p1,i6 p2,i6 p3,i6 p4,i6 p5,i6 p6,i6 p7,i6 p8,i6 p9,.slice A9 bC.length c9,.string b0,i6 b2]) (blk_put (cs':=#[i6 p1,i6 p2,i6 p3,i6 p4,i6 p5,i6 p6,i6 p7,i6 p8,i6 p9,.slice A9 bC.length c9,.string b0,i6 0]) (blk_put (cs':=#[i6 p1,i6 p2,i6 p3,i6 p4,i6 p5,i6 p6,i6 p7,i6 p8,i6 p9,.slice A9 bC.length c9,.string ⟨#[]⟩,i6 0]) (blk_put (cs':=#[i6 p1,i6 p2,i6 p3,i6 p4,i6 p5,i6 p6,i6 p7,i6 p8,i6 p9,.slice none 0 0,.string ⟨#[]⟩,i6 0]) (blk_put (cs':=#[i6 p1,i6 p2,i6 p3,i6 p4,i6 p5,i6 p6,i6 p7,i6 p8,i6 0,.slice none 0 0,.string ⟨#[]⟩,i6 0]) (blk_put (cs':=#[i6 p1,i6 p2,i6 p3,i6 p4,i6 p5,i6 p6,i6 p7,i6 0,i6 0,.slice none 0 0,.string ⟨#[]⟩,i6 0]) (blk_put (cs':=#[i6 p1,i6 p2,i6 p3,i6 p4,i6 p5,i6 p6,i6 0,i6 0,i6 0,.slice none 0 0,.string ⟨#[]⟩,i6 0]) (blk_put (cs':=#[i6 p1,i6 p2,i6 p3,i6 p4,i6 p5,i6 0,i6 0,i6 0,i6 0,.slice none 0 0,.string ⟨#[]⟩,i6 0]) (blk_put (cs':=#[i6 p1,i6 p2,i6 p3,i6 p4,i6 0,i6 0,i6 0,i6 0,i6 0,.slice none 0 0,.string ⟨#[]⟩,i6 0]) (blk_put (cs':=#[i6 p1,i6 p2,i6 p3,i6 0,i6 0,i6 0,i6 0,i6 0,i6 0,.slice none 0 0,.string ⟨#[]⟩,i6 0]) (blk_put (cs':=#[i6 p1,i6 p2,i6 0,i6 0,i6 0,i6 0,i6 0,i6 0,i6 0,.slice none 0 0,.string ⟨#[]⟩,i6 0]) (blk_put (cs':=#[i6 p1,i6 0,i6 0,i6 0,i6 0,i6 0,i6 0,i6 0,i6 0,.slice none 0 0,.string ⟨#[]⟩,i6 0]) aZ.out 0 (i6 p1) rfl) 1 (i6 p2) rfl) 2 (i6 p3) rfl) 3 (i6 p4) rfl) 4 (i6 p5) rfl) 5 (i6 p6) rfl) 6 (i6 p7) rfl) 7 (i6 p8) rfl) 8 (i6 p9) rfl) 9 (.slice A9 bC.length c9) rfl) 10 (.string b0) rfl) 11 (i6 b2) rfl)⟩;have m8_:Aside0 (ws2.heap[b3]?=some (.cells #[i6 p1,i6 p2,i6 p3,i6 p4,i6 p5,i6 p6,i6 p7,i6 p8,i6 p9,.slice A9 bC.length c9,.string b0,i6 b2] 28 (0,0))):=⟨by rw[hw];exact(blk_far (blk_far (blk_far (blk_far (blk_far (blk_far (blk_far (blk_far (blk_far (blk_far (blk_far (blk_far b1.out NE8_2 (i6 p1)) NE8_2 (i6 p2)) NE8_2 (i6 p3)) NE8_2 (i6 p4)) NE8_2 (i6 p5)) NE8_2 (i6 p6)) NE8_2 (i6 p7)) NE8_2 (i6 p8)) NE8_2 (i6 p9)) NE8_2 (.slice A9 bC.length c9)) NE8_2 (.string b0)) NE8_2 (i6 b2))⟩;have mHO9_:Aside0 (Kd.R k46 46 ws2 w.heap.size (fun _=> True) (.slice A9 bC.length c9) bC):=⟨by rw[hw];exact Kd.R_mono (rf (rf (rf (rf (rf (rf (rf (rf (rf (rf (rf (rf (Kd.R_types bZ.out aZ.out (by decide)))))))))))))) (fun _ hk=> hk.1)⟩;clear hw HB;have HB:=a1;clear aZ aF aG aH aI aJ aK aL aM aN aO aP aQ aR aS aT aU aV aW aX aY aA aB aC aD;have aZ:=bX;clear a1 bX;clear b1 bD bE bF bG bH bI bJ bK bL bM bN bO bP bQ bR bS bT bU bV bW a2 a3 a4 a5;have b1:=m8_;clear m8_;obtain⟨bD,bE,bF,bG,bH,bI,bJ,bK,bL,bM,bN,bO,bP,bQ,bR,bS,bT,bU,bV,bW,a2,a3,a4,a5⟩:=be12 b1.out;clear bZ;have bZ:=mHO9_;clear mHO9_;obtain⟨aF,aG,aH,aI,aJ,aK,aL,aM,aN,aO,aP,aQ,aR,aS,aT,aU,aV,aW,aX,aY,aA,aB,aC,aD⟩:=be12 aZ.out))
 exact bodyPost_ret (results_ct rfl _ _ aE 28 _ (0,0) _ rfl aZ.out Tryz.underlying28 rfl (by kernel_rfl)) rfl ⟨_,rfl,Kd.R_mono bZ.out (fun _ _=> trivial),(HB.out)⟩

/-! ### ententeref03_number: function 75 -/
def ententeref03_number.f (a0:Int) (a1:Int):Option (Int):=if a0< a1 then(some (-1))else(if a0> a1 then(some 1)else(some 0))
set_option maxHeartbeats 8000000 in
set_option maxRecDepth 100000 in
theorem ententeref03_number.calls (a0:Int) (a1:Int) (r:Int) (w:World) (h:ententeref03_number.f a0 a1=some r) :
  Calls Tryz.prog 75 #[i6 a0,i6 a1] w fun e w'=> e=.returned (i6 r)∧Drawn0 w w':=by
 unfold ententeref03_number.f at h
 have H:=h
 clear h
 by_cases c3:a0< a1
 ·rw[if_pos c3]at H
  have aA:=decide_eq_true c3
  clear c3
  obtain rfl:=Option.some.inj H
  go_enter Tryz.func75,Tryz.ntmps75
  go_wp2
  go_ret
  exact⟨by rfl,Drawn0.refl _⟩
 ·rw[if_neg c3]at H
  have aA:=decide_eq_false c3
  clear c3
  by_cases c4:a0> a1
  ·rw[if_pos c4]at H
   have aB:decide (a1< a0)=true:=decide_eq_true c4
   clear c4
   obtain rfl:=Option.some.inj H
   go_enter Tryz.func75,Tryz.ntmps75
   go_wp2
   go_ret
   exact⟨by rfl,Drawn0.refl _⟩
  ·rw[if_neg c4]at H
   have aB:decide (a1< a0)=false:=decide_eq_false c4
   clear c4
   obtain rfl:=Option.some.inj H
   go_enter Tryz.func75,Tryz.ntmps75
   go_wp2
   go_ret
   exact⟨by rfl,Drawn0.refl _⟩

/-! ### ententeref03_Cmp: function 69 -/
mutual
def ententeref03_Cmp.l0:Nat→Int→Int→Int→List (S46)→Int→Int→List (S46)→Option (Int)
 |0,_,_,_,_,_,_,_=> none
 |k+1,x5,bL,bM,a7,bN,bO,a8=> if x5< (a7.length:Int)then(ententeref03_Cmp.j1 k x5 (decide (x5< (a8.length:Int))) bL bM a7 bN bO a8)else(ententeref03_Cmp.j1 k x5 false bL bM a7 bN bO a8)
def ententeref03_Cmp.j1:Nat→Int→Bool→Int→Int→List (S46)→Int→Int→List (S46)→Option (Int)
 |0,_,_,_,_,_,_,_,_=> none
 |k+1,x5,iB,bL,bM,a7,bN,bO,a8=> if iB=true then(if 0≤x5 then(if x5< (a7.length:Int)then(if x5< (a8.length:Int)then(if((rd_T46 a7 x5).f0)=((rd_T46 a8 x5).f0)then(if((rd_T46 a7 x5).f1)=((rd_T46 a8 x5).f1)then(ententeref03_Cmp.l0 k (wrap64 (x5+1)) bL bM a7 bN bO a8)else((ententeref03_number.f ((rd_T46 a7 x5).f1) ((rd_T46 a8 x5).f1)).bind fun b8=> (some b8)))else((ententeref03_number.f ((rd_T46 a7 x5).f0) ((rd_T46 a8 x5).f0)).bind fun b9=> (some b9)))else(none))else(none))else(none))else((ententeref03_number.f (a7.length:Int) (a8.length:Int)).bind fun cA=> (some cA))
end
def ententeref03_Cmp.f (k:Nat) (bB:Int) (bC:Int) (aR:List (S46)) (bD:Int) (bE:Int) (aS:List (S46)):Option (Int):=if bB=bD then(if bC=bE then(ententeref03_Cmp.l0 k 0 bB bC aR bD bE aS)else((ententeref03_number.f bC bE).bind fun cJ=> (some cJ)))else((ententeref03_number.f bB bD).bind fun cK=> (some cK))
theorem ententeref03_Cmp.mono_l:∀ k,(∀ y0 y1 y2 y3 y4 y5 y6,LeO (ententeref03_Cmp.l0 k y0 y1 y2 y3 y4 y5 y6) (ententeref03_Cmp.l0 (k+1) y0 y1 y2 y3 y4 y5 y6))∧(∀ y0 y1 y2 y3 y4 y5 y6 y7,LeO (ententeref03_Cmp.j1 k y0 y1 y2 y3 y4 y5 y6 y7) (ententeref03_Cmp.j1 (k+1) y0 y1 y2 y3 y4 y5 y6 y7))
 |0=> ⟨fun _ _ _ _ _ _ _ r h=> by simp[ententeref03_Cmp.l0]at h,fun _ _ _ _ _ _ _ _ r h=> by simp[ententeref03_Cmp.j1]at h⟩
 |k+1=> by
  obtain⟨ih0,ih1⟩:=ententeref03_Cmp.mono_l k
  refine⟨?_,?_⟩
  ·intro y0 y1 y2 y3 y4 y5 y6
   unfold ententeref03_Cmp.l0
   repeat' with_reducible first|apply ih0|apply ih1|apply LeO.refl|apply LeO.none|refine LeO.ite ?_ ?_|refine LeO.bind ?_ (fun _=> ?_)
  ·intro y0 y1 y2 y3 y4 y5 y6 y7
   unfold ententeref03_Cmp.j1
   repeat' with_reducible first|apply ih0|apply ih1|apply LeO.refl|apply LeO.none|refine LeO.ite ?_ ?_|refine LeO.bind ?_ (fun _=> ?_)
theorem ententeref03_Cmp.mono:∀ a0 a1 a2 a3 a4 a5 k,LeO (ententeref03_Cmp.f k a0 a1 a2 a3 a4 a5) (ententeref03_Cmp.f (k+1) a0 a1 a2 a3 a4 a5):=by
 intro a0 a1 a2 a3 a4 a5 k
 obtain⟨ih0,ih1⟩:=ententeref03_Cmp.mono_l k
 unfold ententeref03_Cmp.f
 repeat' with_reducible first|apply ih0|apply ih1|apply LeO.refl|apply LeO.none|refine LeO.ite ?_ ?_|refine LeO.bind ?_ (fun _=> ?_)
def ententeref03_Cmp.T8:Bool×List (List Nat×List Nat):=(true,[([],[]),([0],[0]),([],[]),([1,2],[1,2]),([3],[3]),([],[]),([5],[5]),([],[]),([6,7],[6,7]),([8],[8]),([],[]),([],[]),([10,4,0,1,2,3,4,10,11],[4,10]),([11,9,12,0,1,2,3,4,5,6,7,8,9,10,11,12],[9,11])])
def ententeref03_Cmp.B8:List Nat:=[0,1,0,7,15,0,32,0,224,480,0,0,3103,8191]
theorem ententeref03_Cmp.tab8:rtab .any (opsOf Tryz.f69 8)=ententeref03_Cmp.T8:=by kernel_rfl
theorem ententeref03_Cmp.bits8:waitsOk ententeref03_Cmp.T8.2 ententeref03_Cmp.B8=true:=by kernel_rfl
set_option maxHeartbeats 8000000 in
set_option maxRecDepth 100000 in
theorem ententeref03_Cmp.calls (k:Nat) (bB:Int) (bC:Int) (bY:Option Addr) (c0_2:Nat) (aR:List (S46)) (bD:Int) (bE:Int) (bZ:Option Addr) (c1_2:Nat) (aS:List (S46)) (r:Int) (w:World) (cB:Kd.C k46 w bY aR.length aR) (cC:aR.length≤c0_2) (cD:Kd.C k46 w bZ aS.length aS) (cE:aS.length≤c1_2) (h:ententeref03_Cmp.f k bB bC aR bD bE aS=some r) :
  Calls Tryz.prog 69 #[.agg #[i6 bB,i6 bC,.slice bY aR.length c0_2],.agg #[i6 bD,i6 bE,.slice bZ aS.length c1_2]] w fun e w'=> e=.returned (i6 r)∧Below w.heap.size w w':=by
 have hu24:=Tryz.underlying24
 have hu46:=Tryz.underlying46
 have dC:=am cB
 have gZ:=am cC
 clear cB cC
 have dD:=am cD
 have g0:=am cE
 clear cD cE
 have HB:=am (Below.refl w.heap.size w)
 unfold ententeref03_Cmp.f at h
 have H:=h
 clear h
 by_cases c3:bB=bD
 ·rw[if_pos c3]at H
  have dE:=beq_iff_eq.mpr c3
  have dF:=bne_eq_false_iff_eq.mpr c3
  clear c3
  by_cases c4:bC=bE
  ·rw[if_pos c4]at H
   have dG:=beq_iff_eq.mpr c4
   have dH:=bne_eq_false_iff_eq.mpr c4
   clear c4
   have H':=am H
   clear H
   go_enter Tryz.func69,Tryz.ntmps69
   go_wp2_with (first|((with_reducible refine gate_dst (N:=2) rfl ?_);(try(refine gate_guard (by rfl) ?_;dsimp only));refine box_event ?hg (N:=2) ?hd (cs:=#[i6 bB,i6 bC,.slice bY aR.length c0_2]) (t:=24) ?hr ?_;(case hd=> rfl);(case hg=> rfl);(case hr=> (go_simp;done));intro aN hg w5 hbox hb;have aA:=am (hbox);have cF:=am (gsz hg HB.out);have cG:=am (gsz hg HB.out);replace HB:=am (below_step (HB.out) hb);clear hb hbox hg)|((with_reducible refine gate_dst (N:=3) rfl ?_);(try(refine gate_guard (by rfl) ?_;dsimp only));refine box_event ?hg (N:=3) ?hd (cs:=#[i6 bD,i6 bE,.slice bZ aS.length c1_2]) (t:=24) ?hr ?_;(case hd=> rfl);(case hg=> rfl);(case hr=> (go_simp;done));intro aO hg w6 hbox hb;have aB:=am (hbox);have cH:=am (gsz hg HB.out);have cI:=am (gsz hg HB.out);replace HB:=am (below_step (HB.out) hb);have aZ:=am ((by rw[hg];exact Nat.ne_of_lt (blk_lt aA.out):aN≠aO));have a6:=am ((by rw[hg];exact Nat.ne_of_gt (blk_lt aA.out):aO≠aN));replace aA:=am (blk_below aA.out hb);clear hb hbox hg;have iC:=aZ.out;have iD:=a6.out;obtain⟨cL,cM,cN⟩:=bc3 aA.out;obtain⟨cO,cP,cQ⟩:=bf3 aA.out;obtain⟨cR,cS,cT⟩:=bc3 aB.out;obtain⟨cU,cV,cW⟩:=bf3 aB.out))
   go_loopg [5] k (fun kq v5 w'=> ∃ (aE:Int),v5=i6 aE∧Aside0 (ententeref03_Cmp.l0 kq aE bB bC aR bD bE aS=some r)∧Aside0 (kq≤k)∧Aside0 (w'.heap[aN]?=some (.cells #[i6 bB,i6 bC,(.slice bY aR.length c0_2)] 24 (0,0)))∧Aside0 (w'.heap[aO]?=some (.cells #[i6 bD,i6 bE,(.slice bZ aS.length c1_2)] 24 (0,0)))∧Aside0 (Below w.heap.size w w'))
   case atStart=> exact⟨(0),(by rfl),H',⟨Nat.le_refl _⟩,⟨by exact aA.out⟩,⟨by exact aB.out⟩,⟨HB.out⟩⟩
   case round=>
    clear H'
    clear dE dF dG dH cL cM cN cR cS cT cO cP cQ cU cV cW
    obtain⟨aE,rfl,HA,dY,aA,aB,HB⟩:=hrel
    cases gk with
    |zero=> exact absurd HA.out (by simp[ententeref03_Cmp.l0])
    |succ k1=>
     have H:=HA.out
     clear HA
     simp only[ententeref03_Cmp.l0]at H
     have HC10:=am H
     clear H
     go_upto_region 6 with(fail)
     go_cut [39] (fun v39 wc=> ∃ (kq:Nat) (b0:Bool),v39=.bool b0∧Aside0 (ententeref03_Cmp.j1 kq aE b0 bB bC aR bD bE aS=some r)∧Aside0 (kq≤k1)∧Aside0 (wc.heap[aN]?=some (.cells #[i6 bB,i6 bC,(.slice bY aR.length c0_2)] 24 (0,0)))∧Aside0 (wc.heap[aO]?=some (.cells #[i6 bD,i6 bE,(.slice bZ aS.length c1_2)] 24 (0,0)))∧Aside0 (Below w.heap.size w wc))
     case first=>
      have H:=HC10.out
      clear HC10
      by_cases dB:aE< (aR.length:Int)
      ·rw[if_pos dB]at H
       have dI:=decide_eq_true dB
       clear dB
       (skip)
       have H':=am H
       clear H
       have g1:=aZ.out
       have g2:=a6.out
       obtain⟨dZ,d0,d1⟩:=bc3 aA.out
       obtain⟨d2,d3,d4⟩:=bf3 aA.out
       obtain⟨d5,d6,d7⟩:=bc3 aB.out
       obtain⟨d8,d9,eA⟩:=bf3 aB.out
       go_wp2
       go_meet
       case rel=> exact⟨_,(decide (aE< (aS.length:Int))),(by rfl),H',⟨by have:=dY.out;omega⟩,⟨by exact aA.out⟩,⟨by exact aB.out⟩,⟨HB.out⟩⟩
      ·rw[if_neg dB]at H
       have dI:=decide_eq_false dB
       clear dB
       (skip)
       have H':=am H
       clear H
       have g3:=aZ.out
       have g4:=a6.out
       obtain⟨eB,eC,eD⟩:=bc3 aA.out
       obtain⟨eE,eF,eG⟩:=bf3 aA.out
       go_wp2
       go_meet
       case rel=> exact⟨_,(false),(by rfl),H',⟨by have:=dY.out;omega⟩,⟨by exact aA.out⟩,⟨by exact aB.out⟩,⟨HB.out⟩⟩
     case rest=>
      clear HC10
      obtain⟨kq,b0,rfl,HA,g5,aA,aB,HB⟩:=hcut
      cases kq with
      |zero=> exact absurd HA.out (by simp[ententeref03_Cmp.j1])
      |succ g6=>
       have H:=HA.out
       clear HA
       simp only[ententeref03_Cmp.j1]at H
       by_cases eH:b0=true
       ·subst eH
        have H1:(if 0≤aE then(if aE< (aR.length:Int)then(if aE< (aS.length:Int)then(if((rd_T46 aR aE).f0)=((rd_T46 aS aE).f0)then(if((rd_T46 aR aE).f1)=((rd_T46 aS aE).f1)then(ententeref03_Cmp.l0 g6 (wrap64 (aE+1)) bB bC aR bD bE aS)else((ententeref03_number.f ((rd_T46 aR aE).f1) ((rd_T46 aS aE).f1)).bind fun b8=> (some b8)))else((ententeref03_number.f ((rd_T46 aR aE).f0) ((rd_T46 aS aE).f0)).bind fun b9=> (some b9)))else(none))else(none))else(none))=some r:=by rw[if_pos rfl]at H;exact H
        clear H
        have H:=H1
        clear H1
        by_cases eI:0≤aE
        ·rw[if_pos eI]at H
         have g7:=decide_eq_true eI
         clear eI
         by_cases eJ:aE< (aR.length:Int)
         ·rw[if_pos eJ]at H
          have g8:=decide_eq_true eJ
          clear eJ
          by_cases eK:aE< (aS.length:Int)
          ·rw[if_pos eK]at H
           have g9:=decide_eq_true eK
           clear eK
           have HZ2_:=am H
           clear H
           try go_wp2
           have bS:=am (blk_drew aA.out)
           have bT:=am (blk_drew aB.out)
           have bU:=am (below_drew1 HB.out)
           clear aA aB HB
           have aA:=bS
           have aB:=bT
           have HB:=bU
           clear bS bT bU
           have cX:0≤(aE:Int):=of_decide_eq_true (by(with_reducible assumption))
           have cY:aE< (aR.length:Int):=of_decide_eq_true (by(with_reducible assumption))
           obtain⟨bF,e259,bH,bI⟩:=at_T46 dC.out aE cX cY
           have aF:=bI
           have aG:=bH
           cases e259
           try replace bH:=(HB.out.cell (World.block_lt_of_cell? w _ bH)).trans bH
           try replace bI:=(HB.out.cell (World.block_lt_of_cell? w _ bI)).trans bI
           replace cX:=eq_true cX
           replace cY:=eq_true cY
           have cZ:0≤(aE:Int):=of_decide_eq_true (by(with_reducible assumption))
           have c0:aE< (aS.length:Int):=of_decide_eq_true (by(with_reducible assumption))
           obtain⟨bG,e260,bJ,bK⟩:=at_T46 dD.out aE cZ c0
           have aH:=bK
           have aI:=bJ
           cases e260
           try replace bJ:=(HB.out.cell (World.block_lt_of_cell? w _ bJ)).trans bJ
           try replace bK:=(HB.out.cell (World.block_lt_of_cell? w _ bK)).trans bK
           replace cZ:=eq_true cZ
           replace c0:=eq_true c0
           refine start_ (n:=14) (S:=fun w'=> w'.cell? ⟨aN,0,none⟩=some (i6 bB)∧w'.cell? ⟨aN,1,none⟩=some (i6 bC)∧w'.cell? ⟨aN,2,none⟩=some (.slice (some bF) aR.length c0_2)∧w'.cell? ⟨aO,0,none⟩=some (i6 bD)∧w'.cell? ⟨aO,1,none⟩=some (i6 bE)∧w'.cell? ⟨aO,2,none⟩=some (.slice (some bG) aS.length c1_2)∧w'.cell? (bF.add ((aE).toNat * 2))=some (i6 ((rd_T46 aR aE).f0))∧w'.cell? ⟨(bF.add ((aE).toNat * 2)).block,(bF.add ((aE).toNat * 2)).off+1,none⟩=some (i6 ((rd_T46 aR aE).f1))∧w'.cell? (bG.add ((aE).toNat * 2))=some (i6 ((rd_T46 aS aE).f0))∧w'.cell? ⟨(bG.add ((aE).toNat * 2)).block,(bG.add ((aE).toNat * 2)).off+1,none⟩=some (i6 ((rd_T46 aS aE).f1))) (ds:=[]) (rl [0,14]) (by kernel_rfl) rfl rfl ⟨(blk_cell aA.out 0).trans rfl,(blk_cell aA.out 1).trans rfl,(blk_cell aA.out 2).trans rfl,(blk_cell aB.out 0).trans rfl,(blk_cell aB.out 1).trans rfl,(blk_cell aB.out 2).trans rfl,((HB.out.cell (World.block_lt_of_cell? w _ aG)).trans aG),((HB.out.cell (World.block_lt_of_cell? w _ aF)).trans aF),((HB.out.cell (World.block_lt_of_cell? w _ aI)).trans aI),((HB.out.cell (World.block_lt_of_cell? w _ aH)).trans aH)⟩ (fun hHeld=> ?_);refine with_tabW ententeref03_Cmp.tab8 ententeref03_Cmp.bits8 (fun HT_ HW_=> ?_)
           generalize wc.drew=iL at aA aB HB bH bI bJ bK hHeld ⊢
           refine pure_ (i:=0) (N:=some 42) (v:=?_) (a':=?_) (rl [1,13]) rfl rfl (any_of HT_.out (by kernel_rfl)) (fun _ _ _ h=> h) (Or.inl ⟨by rfl,?_⟩) ?_ ?_
           rotate_left
           ·intro w'
            go_simp
            with_reducible rfl
           rotate_left
           ·simp only[Act.put,l_a,l_z,l_s,i64_w,i32_w]
            rfl
           refine pure_ (i:=2) (N:=some 44) (v:=?_) (a':=?_) (rl [1,1,1,11]) rfl rfl (any_of HT_.out (by kernel_rfl)) (fun _ _ _ h=> h) (Or.inl ⟨by rfl,?_⟩) ?_ ?_
           rotate_left
           ·intro w'
            go_simp
            with_reducible rfl
           rotate_left
           ·simp only[Act.put,l_a,l_z,l_s,i64_w,i32_w]
            rfl
           refine pure_ (i:=5) (N:=some 47) (v:=?_) (a':=?_) (rl [1,1,1,2,1,8]) rfl rfl (any_of HT_.out (by kernel_rfl)) (fun _ _ _ h=> h) (Or.inl ⟨by rfl,?_⟩) ?_ ?_
           rotate_left
           ·intro w'
            go_simp
            with_reducible rfl
           rotate_left
           ·simp only[Act.put,l_a,l_z,l_s,i64_w,i32_w]
            rfl
           refine pure_ (i:=7) (N:=some 49) (v:=?_) (a':=?_) (rl [1,1,1,2,1,1,1,6]) rfl rfl (any_of HT_.out (by kernel_rfl)) (fun _ _ _ h=> h) (Or.inl ⟨by rfl,?_⟩) ?_ ?_
           rotate_left
           ·intro w'
            go_simp
            with_reducible rfl
           rotate_left
           ·simp only[Act.put,l_a,l_z,l_s,i64_w,i32_w]
            rfl
           refine take_ (i:=1) (N:=some 43) (v:=?_) (a':=?_) (rl [3,2,1,1,1,6]) rfl rfl (take_ofW HT_.out HW_.out (by kernel_rfl)) (fun _ _ _ h=> h) (Or.inl ⟨by rfl,?_⟩) hHeld ?_ ?_
           rotate_left
           ·rintro w' ⟨s0,s1,s2,s3,s4,s5,s6,s7,s8,s9⟩
            go_simp
            with_reducible rfl
           rotate_left
           ·simp only[Act.put,l_a,l_z,l_s,i64_w,i32_w]
            rfl
           refine pure_ (i:=3) (N:=some 45) (v:=?_) (a':=?_) (rl [4,1,1,1,1,6]) rfl rfl (any_of HT_.out (by kernel_rfl)) (fun _ _ _ h=> h) (Or.inl ⟨by rfl,?_⟩) ?_ ?_
           rotate_left
           ·intro w'
            go_simp
            with_reducible rfl
           rotate_left
           ·simp only[Act.put,l_a,l_z,l_s,i64_w,i32_w]
            rfl
           refine take_ (i:=4) (N:=some 46) (v:=?_) (a':=?_) (rl [6,1,1,6]) rfl rfl (take_ofW HT_.out HW_.out (by kernel_rfl)) (fun _ _ _ h=> h) (Or.inl ⟨by rfl,?_⟩) hHeld ?_ ?_
           rotate_left
           ·rintro w' ⟨s0,s1,s2,s3,s4,s5,s6,s7,s8,s9⟩
            go_simp
            with_reducible rfl
           rotate_left
           ·simp only[Act.put,l_a,l_z,l_s,i64_w,i32_w]
            rfl
           refine take_ (i:=6) (N:=some 48) (v:=?_) (a':=?_) (rl [8,6]) rfl rfl (take_ofW HT_.out HW_.out (by kernel_rfl)) (fun _ _ _ h=> h) (Or.inl ⟨by rfl,?_⟩) hHeld ?_ ?_
           rotate_left
           ·rintro w' ⟨s0,s1,s2,s3,s4,s5,s6,s7,s8,s9⟩
            go_simp
            with_reducible rfl
           rotate_left
           ·simp only[Act.put,l_a,l_z,l_s,i64_w,i32_w]
            rfl
           refine pure_ (i:=8) (N:=some 50) (v:=?_) (a':=?_) (rl [9,5]) rfl rfl (any_of HT_.out (by kernel_rfl)) (fun _ _ _ h=> h) (Or.inl ⟨by rfl,?_⟩) ?_ ?_
           rotate_left
           ·intro w'
            go_simp
            with_reducible rfl
           rotate_left
           ·simp only[Act.put,l_a,l_z,l_s,i64_w,i32_w]
            rfl
           refine take_ (i:=9) (N:=some 51) (v:=?_) (a':=?_) (rl [10,4]) rfl rfl (take_ofW HT_.out HW_.out (by kernel_rfl)) (fun _ _ _ h=> h) (Or.inl ⟨by rfl,?_⟩) hHeld ?_ ?_
           rotate_left
           ·rintro w' ⟨s0,s1,s2,s3,s4,s5,s6,s7,s8,s9⟩
            go_simp
            with_reducible rfl
           rotate_left
           ·simp only[Act.put,l_a,l_z,l_s,i64_w,i32_w]
            rfl
           refine join_ (σ:=Nat×Nat) 2 (rl [12,2]) (fun s_=> [(6,.pointer (some ⟨s_.1,0,none⟩)),(7,.pointer (some ⟨s_.2,0,none⟩))]) (fun s_ w'=> (w'.cell? ⟨aN,0,none⟩=some (i6 bB)∧w'.cell? ⟨aN,1,none⟩=some (i6 bC)∧w'.cell? ⟨aN,2,none⟩=some (.slice (some bF) aR.length c0_2)∧w'.cell? ⟨aO,0,none⟩=some (i6 bD)∧w'.cell? ⟨aO,1,none⟩=some (i6 bE)∧w'.cell? ⟨aO,2,none⟩=some (.slice (some bG) aS.length c1_2)∧w'.cell? (bF.add ((aE).toNat * 2))=some (i6 ((rd_T46 aR aE).f0))∧w'.cell? ⟨(bF.add ((aE).toNat * 2)).block,(bF.add ((aE).toNat * 2)).off+1,none⟩=some (i6 ((rd_T46 aR aE).f1))∧w'.cell? (bG.add ((aE).toNat * 2))=some (i6 ((rd_T46 aS aE).f0))∧w'.cell? ⟨(bG.add ((aE).toNat * 2)).block,(bG.add ((aE).toNat * 2)).off+1,none⟩=some (i6 ((rd_T46 aS aE).f1)))∧(w'.heap[aN]?=some (.cells #[i6 bB,i6 bC,.slice (some bF) aR.length c0_2] 24 (0,0)))∧(w'.heap[aO]?=some (.cells #[i6 bD,i6 bE,.slice (some bG) aS.length c1_2] 24 (0,0)))∧(w'.heap[s_.1]?=some (.cells #[i6 0,i6 0] 46 (0,0)))∧(w'.heap[s_.2]?=some (.cells #[i6 0,i6 0] 46 (0,0)))∧(w.heap.size≤s_.1)∧(w.heap.size≤s_.1)∧(aN≠s_.1)∧(s_.1≠aN)∧(aO≠s_.1)∧(s_.1≠aO)∧(s_.2≠s_.1)∧(s_.1≠s_.2)∧(w.heap.size≤s_.2)∧(w.heap.size≤s_.2)∧(aN≠s_.2)∧(s_.2≠aN)∧(aO≠s_.2)∧(s_.2≠aO)∧(Below w.heap.size w w')) ?_ ?_
           rotate_left
           ·intro hCont
            refine two_ (i:=10) (j:=11) (Ni:=some 6) (Nj:=some 7) (rl [11,3]) (rl [10,1,1,2]) rfl rfl rfl rfl (two_of HT_.out (by kernel_rfl)) (by decide) (by decide) (fun K hK=> ?_) (fun K hK=> ?_)
            ·skip
             refine box_step ?hg (N:=6) ?hd (cs:=#[i6 0,i6 0]) (t:=46) ?hr ?_;(case hd=> rfl);(case hg=> rfl);(case hr=> (go_simp;done))
             intro aC hg iE hbox hb
             have bS:=am (blk_below aA.out hb)
             have bT:=am (blk_below aB.out hb)
             have bU:=am (below_step (HB.out) hb)
             have b1:=am (hbox)
             have b2:=am (gsz hg HB.out)
             have b3:=am (gsz hg HB.out)
             have b4:=am ((by rw[hg];exact Nat.ne_of_lt (blk_lt aA.out):aN≠aC))
             have b5:=am ((by rw[hg];exact Nat.ne_of_gt (blk_lt aA.out):aC≠aN))
             have b6:=am ((by rw[hg];exact Nat.ne_of_lt (blk_lt aB.out):aO≠aC))
             have b7:=am ((by rw[hg];exact Nat.ne_of_gt (blk_lt aB.out):aC≠aO))
             clear aA aB HB
             have aA:=bS
             have aB:=bT
             have HB:=bU
             have a9:=b1
             have aP:=b2
             have bP:=b3
             have aJ:=b4
             have aV:=b5
             have aK:=b6
             have aW:=b7
             clear bS bT bU b1 b2 b3 b4 b5 b6 b7
             clear hb hbox hg
             refine hK.out _ _ ⟨(blk_cell aA.out 0).trans rfl,(blk_cell aA.out 1).trans rfl,(blk_cell aA.out 2).trans rfl,(blk_cell aB.out 0).trans rfl,(blk_cell aB.out 1).trans rfl,(blk_cell aB.out 2).trans rfl,((HB.out.cell (World.block_lt_of_cell? w _ aG)).trans aG),((HB.out.cell (World.block_lt_of_cell? w _ aF)).trans aF),((HB.out.cell (World.block_lt_of_cell? w _ aI)).trans aI),((HB.out.cell (World.block_lt_of_cell? w _ aH)).trans aH)⟩ (fun hHeld=> ?_)
             clear hK K
             refine norm_ (a':=?_) ?_ ?_
             rotate_left
             ·show Act.put _ (some 6) _=_
              simp only[Act.put,l_a,l_z,l_s,i64_w,i32_w]
              rfl
             refine one_ (i:=11) (N:=some 7) (rl [12,2]) rfl rfl (one_of HT_.out (by kernel_rfl)) (by decide) (fun K hK=> ?_)
             refine box_step ?hg (N:=7) ?hd (cs:=#[i6 0,i6 0]) (t:=46) ?hr ?_;(case hd=> rfl);(case hg=> rfl);(case hr=> (go_simp;done))
             intro aD hg iF hbox hb
             have bS:=am (blk_below aA.out hb)
             have bT:=am (blk_below aB.out hb)
             have bU:=am (blk_below a9.out hb)
             have b1:=am (below_step (HB.out) hb)
             have b2:=am (hbox)
             have b3:=am (gsz hg HB.out)
             have b4:=am (gsz hg HB.out)
             have b5:=am ((by rw[hg];exact Nat.ne_of_lt (blk_lt aA.out):aN≠aD))
             have b6:=am ((by rw[hg];exact Nat.ne_of_gt (blk_lt aA.out):aD≠aN))
             have b7:=am ((by rw[hg];exact Nat.ne_of_lt (blk_lt aB.out):aO≠aD))
             have bV:=am ((by rw[hg];exact Nat.ne_of_gt (blk_lt aB.out):aD≠aO))
             have bW:=am ((by rw[hg];exact Nat.ne_of_lt (blk_lt a9.out):aC≠aD))
             have bX:=am ((by rw[hg];exact Nat.ne_of_gt (blk_lt a9.out):aD≠aC))
             clear aA aB a9 HB
             have aA:=bS
             have aB:=bT
             have a9:=bU
             have HB:=b1
             have bA:=b2
             have aQ:=b3
             have bQ:=b4
             have aL:=b5
             have aX:=b6
             have aM:=b7
             have aY:=bV
             have aT:=bW
             have aU:=bX
             clear bS bT bU b1 b2 b3 b4 b5 b6 b7 bV bW bX
             clear hb hbox hg
             refine hK.out _ _ ⟨(blk_cell aA.out 0).trans rfl,(blk_cell aA.out 1).trans rfl,(blk_cell aA.out 2).trans rfl,(blk_cell aB.out 0).trans rfl,(blk_cell aB.out 1).trans rfl,(blk_cell aB.out 2).trans rfl,((HB.out.cell (World.block_lt_of_cell? w _ aG)).trans aG),((HB.out.cell (World.block_lt_of_cell? w _ aF)).trans aF),((HB.out.cell (World.block_lt_of_cell? w _ aI)).trans aI),((HB.out.cell (World.block_lt_of_cell? w _ aH)).trans aH)⟩ (fun hHeld=> ?_)
             clear hK K
             refine norm_ (a':=?_) ?_ ?_
             rotate_left
             ·show Act.put _ (some 7) _=_
              simp only[Act.put,l_a,l_z,l_s,i64_w,i32_w]
              rfl
             exact norm_ (by simp only[putAll,Act.put,l_a,l_z,l_s]) (hCont (aC,aD) _ ⟨hHeld,(by exact aA.out),(by exact aB.out),(by exact a9.out),(by exact bA.out),aP.out,bP.out,aJ.out,aV.out,aK.out,aW.out,aU.out,aT.out,aQ.out,bQ.out,aL.out,aX.out,aM.out,aY.out,(HB.out)⟩)
            ·skip
             refine box_step ?hg (N:=7) ?hd (cs:=#[i6 0,i6 0]) (t:=46) ?hr ?_;(case hd=> rfl);(case hg=> rfl);(case hr=> (go_simp;done))
             intro aD hg iE hbox hb
             have bS:=am (blk_below aA.out hb)
             have bT:=am (blk_below aB.out hb)
             have bU:=am (below_step (HB.out) hb)
             have b1:=am (hbox)
             have b2:=am (gsz hg HB.out)
             have b3:=am (gsz hg HB.out)
             have b4:=am ((by rw[hg];exact Nat.ne_of_lt (blk_lt aA.out):aN≠aD))
             have b5:=am ((by rw[hg];exact Nat.ne_of_gt (blk_lt aA.out):aD≠aN))
             have b6:=am ((by rw[hg];exact Nat.ne_of_lt (blk_lt aB.out):aO≠aD))
             have b7:=am ((by rw[hg];exact Nat.ne_of_gt (blk_lt aB.out):aD≠aO))
             clear aA aB HB
             have aA:=bS
             have aB:=bT
             have HB:=bU
             have bA:=b1
             have aQ:=b2
             have bQ:=b3
             have aL:=b4
             have aX:=b5
             have aM:=b6
             have aY:=b7
             clear bS bT bU b1 b2 b3 b4 b5 b6 b7
             clear hb hbox hg
             refine hK.out _ _ ⟨(blk_cell aA.out 0).trans rfl,(blk_cell aA.out 1).trans rfl,(blk_cell aA.out 2).trans rfl,(blk_cell aB.out 0).trans rfl,(blk_cell aB.out 1).trans rfl,(blk_cell aB.out 2).trans rfl,((HB.out.cell (World.block_lt_of_cell? w _ aG)).trans aG),((HB.out.cell (World.block_lt_of_cell? w _ aF)).trans aF),((HB.out.cell (World.block_lt_of_cell? w _ aI)).trans aI),((HB.out.cell (World.block_lt_of_cell? w _ aH)).trans aH)⟩ (fun hHeld=> ?_)
             clear hK K
             refine norm_ (a':=?_) ?_ ?_
             rotate_left
             ·show Act.put _ (some 7) _=_
              simp only[Act.put,l_a,l_z,l_s,i64_w,i32_w]
              rfl
             refine one_ (i:=10) (N:=some 6) (rl [12,2]) rfl rfl (one_of HT_.out (by kernel_rfl)) (by decide) (fun K hK=> ?_)
             refine box_step ?hg (N:=6) ?hd (cs:=#[i6 0,i6 0]) (t:=46) ?hr ?_;(case hd=> rfl);(case hg=> rfl);(case hr=> (go_simp;done))
             intro aC hg iF hbox hb
             have bS:=am (blk_below aA.out hb)
             have bT:=am (blk_below aB.out hb)
             have bU:=am (blk_below bA.out hb)
             have b1:=am (below_step (HB.out) hb)
             have b2:=am (hbox)
             have b3:=am (gsz hg HB.out)
             have b4:=am (gsz hg HB.out)
             have b5:=am ((by rw[hg];exact Nat.ne_of_lt (blk_lt aA.out):aN≠aC))
             have b6:=am ((by rw[hg];exact Nat.ne_of_gt (blk_lt aA.out):aC≠aN))
             have b7:=am ((by rw[hg];exact Nat.ne_of_lt (blk_lt aB.out):aO≠aC))
             have bV:=am ((by rw[hg];exact Nat.ne_of_gt (blk_lt aB.out):aC≠aO))
             have bW:=am ((by rw[hg];exact Nat.ne_of_lt (blk_lt bA.out):aD≠aC))
             have bX:=am ((by rw[hg];exact Nat.ne_of_gt (blk_lt bA.out):aC≠aD))
             clear aA aB bA HB
             have aA:=bS
             have aB:=bT
             have bA:=bU
             have HB:=b1
             have a9:=b2
             have aP:=b3
             have bP:=b4
             have aJ:=b5
             have aV:=b6
             have aK:=b7
             have aW:=bV
             have aU:=bW
             have aT:=bX
             clear bS bT bU b1 b2 b3 b4 b5 b6 b7 bV bW bX
             clear hb hbox hg
             refine hK.out _ _ ⟨(blk_cell aA.out 0).trans rfl,(blk_cell aA.out 1).trans rfl,(blk_cell aA.out 2).trans rfl,(blk_cell aB.out 0).trans rfl,(blk_cell aB.out 1).trans rfl,(blk_cell aB.out 2).trans rfl,((HB.out.cell (World.block_lt_of_cell? w _ aG)).trans aG),((HB.out.cell (World.block_lt_of_cell? w _ aF)).trans aF),((HB.out.cell (World.block_lt_of_cell? w _ aI)).trans aI),((HB.out.cell (World.block_lt_of_cell? w _ aH)).trans aH)⟩ (fun hHeld=> ?_)
             clear hK K
             refine norm_ (a':=?_) ?_ ?_
             rotate_left
             ·show Act.put _ (some 6) _=_
              simp only[Act.put,l_a,l_z,l_s,i64_w,i32_w]
              rfl
             exact norm_ (by simp only[putAll,Act.put,l_a,l_z,l_s]) (hCont (aC,aD) _ ⟨hHeld,(by exact aA.out),(by exact aB.out),(by exact a9.out),(by exact bA.out),aP.out,bP.out,aJ.out,aV.out,aK.out,aW.out,aU.out,aT.out,aQ.out,bQ.out,aL.out,aX.out,aM.out,aY.out,(HB.out)⟩)
           rintro⟨aC,aD⟩ bR ⟨hS_,h0_,h1_,h2_,h3_,h4_,h5_,h6_,h7_,h8_,h9_,h10_,h11_,h12_,h13_,h14_,h15_,h16_,h17_,h18_⟩
           have bS:Aside0 (bR.heap[aN]?=some (.cells #[i6 bB,i6 bC,.slice (some bF) aR.length c0_2] 24 (0,0))):=⟨h0_⟩
           have bT:Aside0 (bR.heap[aO]?=some (.cells #[i6 bD,i6 bE,.slice (some bG) aS.length c1_2] 24 (0,0))):=⟨h1_⟩
           have bU:Aside0 (bR.heap[aC]?=some (.cells #[i6 0,i6 0] 46 (0,0))):=⟨h2_⟩
           have b1:Aside0 (bR.heap[aD]?=some (.cells #[i6 0,i6 0] 46 (0,0))):=⟨h3_⟩
           have b2:Aside0 (w.heap.size≤aC):=⟨h4_⟩
           have b3:Aside0 (w.heap.size≤aC):=⟨h5_⟩
           have b4:Aside0 (aN≠aC):=⟨h6_⟩
           have b5:Aside0 (aC≠aN):=⟨h7_⟩
           have b6:Aside0 (aO≠aC):=⟨h8_⟩
           have b7:Aside0 (aC≠aO):=⟨h9_⟩
           have bV:Aside0 (aD≠aC):=⟨h10_⟩
           have bW:Aside0 (aC≠aD):=⟨h11_⟩
           have bX:Aside0 (w.heap.size≤aD):=⟨h12_⟩
           have dJ:Aside0 (w.heap.size≤aD):=⟨h13_⟩
           have dK:Aside0 (aN≠aD):=⟨h14_⟩
           have dL:Aside0 (aD≠aN):=⟨h15_⟩
           have dM:Aside0 (aO≠aD):=⟨h16_⟩
           have dN:Aside0 (aD≠aO):=⟨h17_⟩
           have dO:Aside0 (Below w.heap.size w bR):=⟨h18_⟩
           clear aA aB HB
           clear h0_ h1_ h2_ h3_ h4_ h5_ h6_ h7_ h8_ h9_ h10_ h11_ h12_ h13_ h14_ h15_ h16_ h17_ h18_
           have aA:=bS
           have aB:=bT
           have a9:=bU
           have bA:=b1
           have aP:=b2
           have bP:=b3
           have aJ:=b4
           have aV:=b5
           have aK:=b6
           have aW:=b7
           have aU:=bV
           have aT:=bW
           have aQ:=bX
           have bQ:=dJ
           have aL:=dK
           have aX:=dL
           have aM:=dM
           have aY:=dN
           have HB:=dO
           clear bS bT bU b1 b2 b3 b4 b5 b6 b7 bV bW bX dJ dK dL dM dN dO
           have hHeld:bR.cell? ⟨aN,0,none⟩=some (i6 bB)∧bR.cell? ⟨aN,1,none⟩=some (i6 bC)∧bR.cell? ⟨aN,2,none⟩=some (.slice (some bF) aR.length c0_2)∧bR.cell? ⟨aO,0,none⟩=some (i6 bD)∧bR.cell? ⟨aO,1,none⟩=some (i6 bE)∧bR.cell? ⟨aO,2,none⟩=some (.slice (some bG) aS.length c1_2)∧bR.cell? (bF.add ((aE).toNat * 2))=some (i6 ((rd_T46 aR aE).f0))∧bR.cell? ⟨(bF.add ((aE).toNat * 2)).block,(bF.add ((aE).toNat * 2)).off+1,none⟩=some (i6 ((rd_T46 aR aE).f1))∧bR.cell? (bG.add ((aE).toNat * 2))=some (i6 ((rd_T46 aS aE).f0))∧bR.cell? ⟨(bG.add ((aE).toNat * 2)).block,(bG.add ((aE).toNat * 2)).off+1,none⟩=some (i6 ((rd_T46 aS aE).f1)):=hS_
           refine norm_ (a':=?_) ?_ ?_
           rotate_left
           ·simp only[putAll,Act.put,l_a,l_z,l_s]
            rfl
           refine one_ (i:=12) (N:=none) (rl [13,1]) rfl rfl (one_of HT_.out (by kernel_rfl)) (by decide) (fun K hK=> ?_)
           have hs27:bR.cell? ⟨aC,0,none⟩=some (i6 0):=(blk_cell a9.out 0).trans rfl
           have hfs27:=blk_frozen a9.out 0
           have eL:=aJ.out
           have eM:=aK.out
           have eN:=aU.out
           have eO:=aV.out
           have eP:=aW.out
           have eQ:=aT.out
           have hs28:bR.cell? ⟨aC,1,none⟩=some (i6 0):=(blk_cell a9.out 1).trans rfl
           have hfs28:=blk_frozen a9.out 1
           have eR:=aJ.out
           have eS:=aK.out
           have eT:=aU.out
           have eU:=aV.out
           have eV:=aW.out
           have eW:=aT.out
           refine skip_ (w1:=?_) (by rfl) rfl ?_ ?_
           rotate_left
           ·go_simp
            rfl
           refine hK.out _ _ ⟨((cell_far (p:=⟨aC,_,none⟩) aJ.out _).trans (((cell_far (p:=⟨aC,_,none⟩) aJ.out _).trans (hHeld.1)))),((cell_far (p:=⟨aC,_,none⟩) aJ.out _).trans (((cell_far (p:=⟨aC,_,none⟩) aJ.out _).trans (hHeld.2.1)))),((cell_far (p:=⟨aC,_,none⟩) aJ.out _).trans (((cell_far (p:=⟨aC,_,none⟩) aJ.out _).trans (hHeld.2.2.1)))),((cell_far (p:=⟨aC,_,none⟩) aK.out _).trans (((cell_far (p:=⟨aC,_,none⟩) aK.out _).trans (hHeld.2.2.2.1)))),((cell_far (p:=⟨aC,_,none⟩) aK.out _).trans (((cell_far (p:=⟨aC,_,none⟩) aK.out _).trans (hHeld.2.2.2.2.1)))),((cell_far (p:=⟨aC,_,none⟩) aK.out _).trans (((cell_far (p:=⟨aC,_,none⟩) aK.out _).trans (hHeld.2.2.2.2.2.1)))),((cell_far (p:=⟨aC,_,none⟩) (by first|exact Nat.ne_of_lt (Nat.lt_of_lt_of_le (by have:=World.block_lt_of_cell? _ _ aG;exact this) aP.out)|(rw[add_block];exact Nat.ne_of_lt (Nat.lt_of_lt_of_le (by have:=World.block_lt_of_cell? _ _ aG;first|rwa [add_block]at this|exact this) aP.out))|(show(Addr.add _ _).block≠_;rw[add_block];exact Nat.ne_of_lt (Nat.lt_of_lt_of_le (by have:=World.block_lt_of_cell? _ _ aG;first|rwa [add_block]at this|exact this) aP.out))|(dsimp only;exact Nat.ne_of_lt (Nat.lt_of_lt_of_le (by have:=World.block_lt_of_cell? _ _ aG;first|rwa [add_block]at this|exact this) aP.out))) _).trans (((cell_far (p:=⟨aC,_,none⟩) (by first|exact Nat.ne_of_lt (Nat.lt_of_lt_of_le (by have:=World.block_lt_of_cell? _ _ aG;exact this) aP.out)|(rw[add_block];exact Nat.ne_of_lt (Nat.lt_of_lt_of_le (by have:=World.block_lt_of_cell? _ _ aG;first|rwa [add_block]at this|exact this) aP.out))|(show(Addr.add _ _).block≠_;rw[add_block];exact Nat.ne_of_lt (Nat.lt_of_lt_of_le (by have:=World.block_lt_of_cell? _ _ aG;first|rwa [add_block]at this|exact this) aP.out))|(dsimp only;exact Nat.ne_of_lt (Nat.lt_of_lt_of_le (by have:=World.block_lt_of_cell? _ _ aG;first|rwa [add_block]at this|exact this) aP.out))) _).trans (hHeld.2.2.2.2.2.2.1)))),((cell_far (p:=⟨aC,_,none⟩) (by first|exact Nat.ne_of_lt (Nat.lt_of_lt_of_le (by have:=World.block_lt_of_cell? _ _ aF;exact this) aP.out)|(rw[add_block];exact Nat.ne_of_lt (Nat.lt_of_lt_of_le (by have:=World.block_lt_of_cell? _ _ aF;first|rwa [add_block]at this|exact this) aP.out))|(show(Addr.add _ _).block≠_;rw[add_block];exact Nat.ne_of_lt (Nat.lt_of_lt_of_le (by have:=World.block_lt_of_cell? _ _ aF;first|rwa [add_block]at this|exact this) aP.out))|(dsimp only;exact Nat.ne_of_lt (Nat.lt_of_lt_of_le (by have:=World.block_lt_of_cell? _ _ aF;first|rwa [add_block]at this|exact this) aP.out))) _).trans (((cell_far (p:=⟨aC,_,none⟩) (by first|exact Nat.ne_of_lt (Nat.lt_of_lt_of_le (by have:=World.block_lt_of_cell? _ _ aF;exact this) aP.out)|(rw[add_block];exact Nat.ne_of_lt (Nat.lt_of_lt_of_le (by have:=World.block_lt_of_cell? _ _ aF;first|rwa [add_block]at this|exact this) aP.out))|(show(Addr.add _ _).block≠_;rw[add_block];exact Nat.ne_of_lt (Nat.lt_of_lt_of_le (by have:=World.block_lt_of_cell? _ _ aF;first|rwa [add_block]at this|exact this) aP.out))|(dsimp only;exact Nat.ne_of_lt (Nat.lt_of_lt_of_le (by have:=World.block_lt_of_cell? _ _ aF;first|rwa [add_block]at this|exact this) aP.out))) _).trans (hHeld.2.2.2.2.2.2.2.1)))),((cell_far (p:=⟨aC,_,none⟩) (by first|exact Nat.ne_of_lt (Nat.lt_of_lt_of_le (by have:=World.block_lt_of_cell? _ _ aI;exact this) aP.out)|(rw[add_block];exact Nat.ne_of_lt (Nat.lt_of_lt_of_le (by have:=World.block_lt_of_cell? _ _ aI;first|rwa [add_block]at this|exact this) aP.out))|(show(Addr.add _ _).block≠_;rw[add_block];exact Nat.ne_of_lt (Nat.lt_of_lt_of_le (by have:=World.block_lt_of_cell? _ _ aI;first|rwa [add_block]at this|exact this) aP.out))|(dsimp only;exact Nat.ne_of_lt (Nat.lt_of_lt_of_le (by have:=World.block_lt_of_cell? _ _ aI;first|rwa [add_block]at this|exact this) aP.out))) _).trans (((cell_far (p:=⟨aC,_,none⟩) (by first|exact Nat.ne_of_lt (Nat.lt_of_lt_of_le (by have:=World.block_lt_of_cell? _ _ aI;exact this) aP.out)|(rw[add_block];exact Nat.ne_of_lt (Nat.lt_of_lt_of_le (by have:=World.block_lt_of_cell? _ _ aI;first|rwa [add_block]at this|exact this) aP.out))|(show(Addr.add _ _).block≠_;rw[add_block];exact Nat.ne_of_lt (Nat.lt_of_lt_of_le (by have:=World.block_lt_of_cell? _ _ aI;first|rwa [add_block]at this|exact this) aP.out))|(dsimp only;exact Nat.ne_of_lt (Nat.lt_of_lt_of_le (by have:=World.block_lt_of_cell? _ _ aI;first|rwa [add_block]at this|exact this) aP.out))) _).trans (hHeld.2.2.2.2.2.2.2.2.1)))),((cell_far (p:=⟨aC,_,none⟩) (by first|exact Nat.ne_of_lt (Nat.lt_of_lt_of_le (by have:=World.block_lt_of_cell? _ _ aH;exact this) aP.out)|(rw[add_block];exact Nat.ne_of_lt (Nat.lt_of_lt_of_le (by have:=World.block_lt_of_cell? _ _ aH;first|rwa [add_block]at this|exact this) aP.out))|(show(Addr.add _ _).block≠_;rw[add_block];exact Nat.ne_of_lt (Nat.lt_of_lt_of_le (by have:=World.block_lt_of_cell? _ _ aH;first|rwa [add_block]at this|exact this) aP.out))|(dsimp only;exact Nat.ne_of_lt (Nat.lt_of_lt_of_le (by have:=World.block_lt_of_cell? _ _ aH;first|rwa [add_block]at this|exact this) aP.out))) _).trans (((cell_far (p:=⟨aC,_,none⟩) (by first|exact Nat.ne_of_lt (Nat.lt_of_lt_of_le (by have:=World.block_lt_of_cell? _ _ aH;exact this) aP.out)|(rw[add_block];exact Nat.ne_of_lt (Nat.lt_of_lt_of_le (by have:=World.block_lt_of_cell? _ _ aH;first|rwa [add_block]at this|exact this) aP.out))|(show(Addr.add _ _).block≠_;rw[add_block];exact Nat.ne_of_lt (Nat.lt_of_lt_of_le (by have:=World.block_lt_of_cell? _ _ aH;first|rwa [add_block]at this|exact this) aP.out))|(dsimp only;exact Nat.ne_of_lt (Nat.lt_of_lt_of_le (by have:=World.block_lt_of_cell? _ _ aH;first|rwa [add_block]at this|exact this) aP.out))) _).trans (hHeld.2.2.2.2.2.2.2.2.2))))⟩ (fun hHeld=> ?_)
           clear hK K
           refine one_ (i:=13) (N:=none) (rl [14]) rfl rfl (one_of HT_.out (by kernel_rfl)) (by decide) (fun K hK=> ?_)
           have hs29:bR.cell? ⟨aD,0,none⟩=some (i6 0):=(blk_cell bA.out 0).trans rfl
           have hfs29:=blk_frozen bA.out 0
           have eX:=aL.out
           have eY:=aM.out
           have eZ:=aT.out
           have e0:=aX.out
           have e1:=aY.out
           have e2:=aU.out
           have hs30:bR.cell? ⟨aD,1,none⟩=some (i6 0):=(blk_cell bA.out 1).trans rfl
           have hfs30:=blk_frozen bA.out 1
           have e3:=aL.out
           have e4:=aM.out
           have e5:=aT.out
           have e6:=aX.out
           have e7:=aY.out
           have e8:=aU.out
           refine skip_ (w1:=?_) (by rfl) rfl ?_ ?_
           rotate_left
           ·go_simp
            rfl
           refine hK.out _ _ ⟨((cell_far (p:=⟨aD,_,none⟩) aL.out _).trans (((cell_far (p:=⟨aD,_,none⟩) aL.out _).trans (hHeld.1)))),((cell_far (p:=⟨aD,_,none⟩) aL.out _).trans (((cell_far (p:=⟨aD,_,none⟩) aL.out _).trans (hHeld.2.1)))),((cell_far (p:=⟨aD,_,none⟩) aL.out _).trans (((cell_far (p:=⟨aD,_,none⟩) aL.out _).trans (hHeld.2.2.1)))),((cell_far (p:=⟨aD,_,none⟩) aM.out _).trans (((cell_far (p:=⟨aD,_,none⟩) aM.out _).trans (hHeld.2.2.2.1)))),((cell_far (p:=⟨aD,_,none⟩) aM.out _).trans (((cell_far (p:=⟨aD,_,none⟩) aM.out _).trans (hHeld.2.2.2.2.1)))),((cell_far (p:=⟨aD,_,none⟩) aM.out _).trans (((cell_far (p:=⟨aD,_,none⟩) aM.out _).trans (hHeld.2.2.2.2.2.1)))),((cell_far (p:=⟨aD,_,none⟩) (by first|exact Nat.ne_of_lt (Nat.lt_of_lt_of_le (by have:=World.block_lt_of_cell? _ _ aG;exact this) aQ.out)|(rw[add_block];exact Nat.ne_of_lt (Nat.lt_of_lt_of_le (by have:=World.block_lt_of_cell? _ _ aG;first|rwa [add_block]at this|exact this) aQ.out))|(show(Addr.add _ _).block≠_;rw[add_block];exact Nat.ne_of_lt (Nat.lt_of_lt_of_le (by have:=World.block_lt_of_cell? _ _ aG;first|rwa [add_block]at this|exact this) aQ.out))|(dsimp only;exact Nat.ne_of_lt (Nat.lt_of_lt_of_le (by have:=World.block_lt_of_cell? _ _ aG;first|rwa [add_block]at this|exact this) aQ.out))) _).trans (((cell_far (p:=⟨aD,_,none⟩) (by first|exact Nat.ne_of_lt (Nat.lt_of_lt_of_le (by have:=World.block_lt_of_cell? _ _ aG;exact this) aQ.out)|(rw[add_block];exact Nat.ne_of_lt (Nat.lt_of_lt_of_le (by have:=World.block_lt_of_cell? _ _ aG;first|rwa [add_block]at this|exact this) aQ.out))|(show(Addr.add _ _).block≠_;rw[add_block];exact Nat.ne_of_lt (Nat.lt_of_lt_of_le (by have:=World.block_lt_of_cell? _ _ aG;first|rwa [add_block]at this|exact this) aQ.out))|(dsimp only;exact Nat.ne_of_lt (Nat.lt_of_lt_of_le (by have:=World.block_lt_of_cell? _ _ aG;first|rwa [add_block]at this|exact this) aQ.out))) _).trans (hHeld.2.2.2.2.2.2.1)))),((cell_far (p:=⟨aD,_,none⟩) (by first|exact Nat.ne_of_lt (Nat.lt_of_lt_of_le (by have:=World.block_lt_of_cell? _ _ aF;exact this) aQ.out)|(rw[add_block];exact Nat.ne_of_lt (Nat.lt_of_lt_of_le (by have:=World.block_lt_of_cell? _ _ aF;first|rwa [add_block]at this|exact this) aQ.out))|(show(Addr.add _ _).block≠_;rw[add_block];exact Nat.ne_of_lt (Nat.lt_of_lt_of_le (by have:=World.block_lt_of_cell? _ _ aF;first|rwa [add_block]at this|exact this) aQ.out))|(dsimp only;exact Nat.ne_of_lt (Nat.lt_of_lt_of_le (by have:=World.block_lt_of_cell? _ _ aF;first|rwa [add_block]at this|exact this) aQ.out))) _).trans (((cell_far (p:=⟨aD,_,none⟩) (by first|exact Nat.ne_of_lt (Nat.lt_of_lt_of_le (by have:=World.block_lt_of_cell? _ _ aF;exact this) aQ.out)|(rw[add_block];exact Nat.ne_of_lt (Nat.lt_of_lt_of_le (by have:=World.block_lt_of_cell? _ _ aF;first|rwa [add_block]at this|exact this) aQ.out))|(show(Addr.add _ _).block≠_;rw[add_block];exact Nat.ne_of_lt (Nat.lt_of_lt_of_le (by have:=World.block_lt_of_cell? _ _ aF;first|rwa [add_block]at this|exact this) aQ.out))|(dsimp only;exact Nat.ne_of_lt (Nat.lt_of_lt_of_le (by have:=World.block_lt_of_cell? _ _ aF;first|rwa [add_block]at this|exact this) aQ.out))) _).trans (hHeld.2.2.2.2.2.2.2.1)))),((cell_far (p:=⟨aD,_,none⟩) (by first|exact Nat.ne_of_lt (Nat.lt_of_lt_of_le (by have:=World.block_lt_of_cell? _ _ aI;exact this) aQ.out)|(rw[add_block];exact Nat.ne_of_lt (Nat.lt_of_lt_of_le (by have:=World.block_lt_of_cell? _ _ aI;first|rwa [add_block]at this|exact this) aQ.out))|(show(Addr.add _ _).block≠_;rw[add_block];exact Nat.ne_of_lt (Nat.lt_of_lt_of_le (by have:=World.block_lt_of_cell? _ _ aI;first|rwa [add_block]at this|exact this) aQ.out))|(dsimp only;exact Nat.ne_of_lt (Nat.lt_of_lt_of_le (by have:=World.block_lt_of_cell? _ _ aI;first|rwa [add_block]at this|exact this) aQ.out))) _).trans (((cell_far (p:=⟨aD,_,none⟩) (by first|exact Nat.ne_of_lt (Nat.lt_of_lt_of_le (by have:=World.block_lt_of_cell? _ _ aI;exact this) aQ.out)|(rw[add_block];exact Nat.ne_of_lt (Nat.lt_of_lt_of_le (by have:=World.block_lt_of_cell? _ _ aI;first|rwa [add_block]at this|exact this) aQ.out))|(show(Addr.add _ _).block≠_;rw[add_block];exact Nat.ne_of_lt (Nat.lt_of_lt_of_le (by have:=World.block_lt_of_cell? _ _ aI;first|rwa [add_block]at this|exact this) aQ.out))|(dsimp only;exact Nat.ne_of_lt (Nat.lt_of_lt_of_le (by have:=World.block_lt_of_cell? _ _ aI;first|rwa [add_block]at this|exact this) aQ.out))) _).trans (hHeld.2.2.2.2.2.2.2.2.1)))),((cell_far (p:=⟨aD,_,none⟩) (by first|exact Nat.ne_of_lt (Nat.lt_of_lt_of_le (by have:=World.block_lt_of_cell? _ _ aH;exact this) aQ.out)|(rw[add_block];exact Nat.ne_of_lt (Nat.lt_of_lt_of_le (by have:=World.block_lt_of_cell? _ _ aH;first|rwa [add_block]at this|exact this) aQ.out))|(show(Addr.add _ _).block≠_;rw[add_block];exact Nat.ne_of_lt (Nat.lt_of_lt_of_le (by have:=World.block_lt_of_cell? _ _ aH;first|rwa [add_block]at this|exact this) aQ.out))|(dsimp only;exact Nat.ne_of_lt (Nat.lt_of_lt_of_le (by have:=World.block_lt_of_cell? _ _ aH;first|rwa [add_block]at this|exact this) aQ.out))) _).trans (((cell_far (p:=⟨aD,_,none⟩) (by first|exact Nat.ne_of_lt (Nat.lt_of_lt_of_le (by have:=World.block_lt_of_cell? _ _ aH;exact this) aQ.out)|(rw[add_block];exact Nat.ne_of_lt (Nat.lt_of_lt_of_le (by have:=World.block_lt_of_cell? _ _ aH;first|rwa [add_block]at this|exact this) aQ.out))|(show(Addr.add _ _).block≠_;rw[add_block];exact Nat.ne_of_lt (Nat.lt_of_lt_of_le (by have:=World.block_lt_of_cell? _ _ aH;first|rwa [add_block]at this|exact this) aQ.out))|(dsimp only;exact Nat.ne_of_lt (Nat.lt_of_lt_of_le (by have:=World.block_lt_of_cell? _ _ aH;first|rwa [add_block]at this|exact this) aQ.out))) _).trans (hHeld.2.2.2.2.2.2.2.2.2))))⟩ (fun hHeld=> ?_)
           clear hK K
           refine done_ (done_of HT_.out (by kernel_rfl)) ?_
           have H:=HZ2_.out
           clear HZ2_
           by_cases c1:((rd_T46 aR aE).f0)=((rd_T46 aS aE).f0)
           ·rw[if_pos c1]at H
            have dP:=beq_iff_eq.mpr c1
            have dQ:=bne_eq_false_iff_eq.mpr c1
            clear c1
            have HZ1_:=am H
            clear H
            have H:=HZ1_.out
            clear HZ1_
            by_cases dA:((rd_T46 aR aE).f1)=((rd_T46 aS aE).f1)
            ·rw[if_pos dA]at H
             have dR:=beq_iff_eq.mpr dA
             have dS:=bne_eq_false_iff_eq.mpr dA
             clear dA
             have H':=am H
             clear H
             have hA:=aV.out
             have hB:=aJ.out
             have hC:=aW.out
             have hD:=aK.out
             have hE:=aT.out
             have hF:=aU.out
             obtain⟨e9,fA⟩:=bc2 a9.out
             obtain⟨fB,fC⟩:=bf2 a9.out
             have hG:=aX.out
             have hH:=aL.out
             have hI:=aY.out
             have hJ:=aM.out
             obtain⟨fD,fE⟩:=bc2 bA.out
             obtain⟨fF,fG⟩:=bf2 bA.out
             try go_wp2
             go_roundg g6
             case measure=> have:=dY.out;have:=g5.out;omega
             case rel=> exact⟨(wrap64 (aE+1)),(by rfl),H',⟨by have:=dY.out;have:=g5.out;omega⟩,⟨by refine blk_far ?_ aL.out _;refine blk_far ?_ aL.out _;refine blk_far ?_ aJ.out _;refine blk_far ?_ aJ.out _;exact aA.out⟩,⟨by refine blk_far ?_ aM.out _;refine blk_far ?_ aM.out _;refine blk_far ?_ aK.out _;refine blk_far ?_ aK.out _;exact aB.out⟩,⟨by repeat(with_reducible first|exact HB.out|refine below_set ?_ bP.out|refine below_set ?_ bQ.out)⟩⟩
            ·rw[if_neg dA]at H
             have dR:=beq_eq_false_iff_ne.mpr dA
             have dS:=bne_iff_ne.mpr dA
             obtain⟨b8,dT,H⟩:=Option.bind_eq_some_iff.mp H
             try dsimp only at H
             have iG:=am dT
             clear dT
             obtain rfl:=Option.some.inj H
             have hL:=aV.out
             have hM:=aJ.out
             have hN:=aW.out
             have hO:=aK.out
             have hP:=aT.out
             have hQ:=aU.out
             obtain⟨fH,fI⟩:=bc2 a9.out
             obtain⟨fJ,fK⟩:=bf2 a9.out
             have hR:=aX.out
             have hS:=aL.out
             have hT:=aY.out
             have hU:=aM.out
             obtain⟨fL,fM⟩:=bc2 bA.out
             obtain⟨fN,fO⟩:=bf2 bA.out
             try go_wp2_with (first|((with_reducible refine gate_callee (f:=75) rfl ?_);refine goesL_ (some 71) rfl rfl Tryz.func75 (by kernel_rfl) rfl #[i6 ((rd_T46 aR aE).f1),i6 ((rd_T46 aS aE).f1)] rfl (by(try simp only[l_m,l_c,l_n]);rfl) ?_;(with_reducible refine(ententeref03_number.calls ((rd_T46 aR aE).f1) ((rd_T46 aS aE).f1) b8 _ iG.out).mono ?_);rintro e w' ⟨rfl,⟨nd,rfl⟩⟩;refine⟨_,rfl,?_⟩))
             go_ret
             exact⟨by rfl,by repeat(with_reducible first|exact HB.out|apply pw_below_drewN|refine below_set ?_ bP.out|refine below_set ?_ bQ.out)⟩
           ·rw[if_neg c1]at H
            have dP:=beq_eq_false_iff_ne.mpr c1
            have dQ:=bne_iff_ne.mpr c1
            obtain⟨b9,dU,H⟩:=Option.bind_eq_some_iff.mp H
            try dsimp only at H
            have iH:=am dU
            clear dU
            obtain rfl:=Option.some.inj H
            have hV:=aV.out
            have hW:=aJ.out
            have hX:=aW.out
            have hY:=aK.out
            have hZ:=aT.out
            have h0:=aU.out
            obtain⟨fP,fQ⟩:=bc2 a9.out
            obtain⟨fR,fS⟩:=bf2 a9.out
            have h1:=aX.out
            have h2:=aL.out
            have h3:=aY.out
            have h4:=aM.out
            obtain⟨fT,fU⟩:=bc2 bA.out
            obtain⟨fV,fW⟩:=bf2 bA.out
            try go_wp2_with (first|((with_reducible refine gate_callee (f:=75) rfl ?_);refine goesL_ (some 61) rfl rfl Tryz.func75 (by kernel_rfl) rfl #[i6 ((rd_T46 aR aE).f0),i6 ((rd_T46 aS aE).f0)] rfl (by(try simp only[l_m,l_c,l_n]);rfl) ?_;(with_reducible refine(ententeref03_number.calls ((rd_T46 aR aE).f0) ((rd_T46 aS aE).f0) b9 _ iH.out).mono ?_);rintro e w' ⟨rfl,⟨nd,rfl⟩⟩;refine⟨_,rfl,?_⟩))
            go_ret
            exact⟨by rfl,by repeat(with_reducible first|exact HB.out|apply pw_below_drewN|refine below_set ?_ bP.out|refine below_set ?_ bQ.out)⟩
          ·rw[if_neg eK]at H
           exact absurd H (by simp)
         ·rw[if_neg eJ]at H
          exact absurd H (by simp)
        ·rw[if_neg eI]at H
         exact absurd H (by simp)
       ·replace eH:=Bool.eq_false_iff.mpr eH
        subst eH
        have H1:((ententeref03_number.f (aR.length:Int) (aS.length:Int)).bind fun cA=> (some cA))=some r:=by rw[if_neg (show ¬ (false=true)by decide)]at H;exact H
        clear H
        have H:=H1
        clear H1
        obtain⟨cA,dV,H⟩:=Option.bind_eq_some_iff.mp H
        try dsimp only at H
        have iI:=am dV
        clear dV
        obtain rfl:=Option.some.inj H
        have h5:=aZ.out
        have h6:=a6.out
        obtain⟨fX,fY,fZ⟩:=bc3 aA.out
        obtain⟨f2,f3,f4⟩:=bf3 aA.out
        obtain⟨f5,f6,f7⟩:=bc3 aB.out
        obtain⟨f8,f9,gA⟩:=bf3 aB.out
        go_wp2_with (first|((with_reducible refine gate_callee (f:=75) rfl ?_);refine goesL_ (some 78) rfl rfl Tryz.func75 (by kernel_rfl) rfl #[i6 (aR.length:Int),i6 (aS.length:Int)] rfl (by(try simp only[l_m,l_c,l_n]);rfl) ?_;(with_reducible refine(ententeref03_number.calls (aR.length:Int) (aS.length:Int) cA _ iI.out).mono ?_);rintro e w' ⟨rfl,⟨nd,rfl⟩⟩;refine⟨_,rfl,?_⟩))
        go_ret
        exact⟨by rfl,pw_below_drewN HB.out _⟩
  ·rw[if_neg c4]at H
   have dG:=beq_eq_false_iff_ne.mpr c4
   have dH:=bne_iff_ne.mpr c4
   obtain⟨cJ,dW,H⟩:=Option.bind_eq_some_iff.mp H
   try dsimp only at H
   have iJ:=am dW
   clear dW
   obtain rfl:=Option.some.inj H
   go_enter Tryz.func69,Tryz.ntmps69
   go_wp2_with (first|((with_reducible refine gate_dst (N:=2) rfl ?_);(try(refine gate_guard (by rfl) ?_;dsimp only));refine box_event ?hg (N:=2) ?hd (cs:=#[i6 bB,i6 bC,.slice bY aR.length c0_2]) (t:=24) ?hr ?_;(case hd=> rfl);(case hg=> rfl);(case hr=> (go_simp;done));intro aN hg iM hbox hb;have aA:=am (hbox);have cF:=am (gsz hg HB.out);have cG:=am (gsz hg HB.out);replace HB:=am (below_step (HB.out) hb);clear hb hbox hg)|((with_reducible refine gate_dst (N:=3) rfl ?_);(try(refine gate_guard (by rfl) ?_;dsimp only));refine box_event ?hg (N:=3) ?hd (cs:=#[i6 bD,i6 bE,.slice bZ aS.length c1_2]) (t:=24) ?hr ?_;(case hd=> rfl);(case hg=> rfl);(case hr=> (go_simp;done));intro aO hg iN hbox hb;have aB:=am (hbox);have cH:=am (gsz hg HB.out);have cI:=am (gsz hg HB.out);replace HB:=am (below_step (HB.out) hb);have aZ:=am ((by rw[hg];exact Nat.ne_of_lt (blk_lt aA.out):aN≠aO));have a6:=am ((by rw[hg];exact Nat.ne_of_gt (blk_lt aA.out):aO≠aN));replace aA:=am (blk_below aA.out hb);clear hb hbox hg;have h7:=aZ.out;have h8:=a6.out;obtain⟨gB,gC,gD⟩:=bc3 aA.out;obtain⟨gE,gF,gG⟩:=bf3 aA.out;obtain⟨gH,gI,gJ⟩:=bc3 aB.out;obtain⟨gK,gL,gM⟩:=bf3 aB.out)|((with_reducible refine gate_callee (f:=75) rfl ?_);refine goesL_ (some 27) rfl rfl Tryz.func75 (by kernel_rfl) rfl #[i6 bC,i6 bE] rfl (by(try simp only[l_m,l_c,l_n]);rfl) ?_;(with_reducible refine(ententeref03_number.calls bC bE cJ _ iJ.out).mono ?_);rintro e w' ⟨rfl,⟨nd,rfl⟩⟩;refine⟨_,rfl,?_⟩))
   go_ret
   exact⟨by rfl,pw_below_drewN HB.out _⟩
 ·rw[if_neg c3]at H
  have dE:=beq_eq_false_iff_ne.mpr c3
  have dF:=bne_iff_ne.mpr c3
  obtain⟨cK,dX,H⟩:=Option.bind_eq_some_iff.mp H
  try dsimp only at H
  have iK:=am dX
  clear dX
  obtain rfl:=Option.some.inj H
  go_enter Tryz.func69,Tryz.ntmps69
  go_wp2_with (first|((with_reducible refine gate_dst (N:=2) rfl ?_);(try(refine gate_guard (by rfl) ?_;dsimp only));refine box_event ?hg (N:=2) ?hd (cs:=#[i6 bB,i6 bC,.slice bY aR.length c0_2]) (t:=24) ?hr ?_;(case hd=> rfl);(case hg=> rfl);(case hr=> (go_simp;done));intro aN hg iO hbox hb;have aA:=am (hbox);have cF:=am (gsz hg HB.out);have cG:=am (gsz hg HB.out);replace HB:=am (below_step (HB.out) hb);clear hb hbox hg)|((with_reducible refine gate_dst (N:=3) rfl ?_);(try(refine gate_guard (by rfl) ?_;dsimp only));refine box_event ?hg (N:=3) ?hd (cs:=#[i6 bD,i6 bE,.slice bZ aS.length c1_2]) (t:=24) ?hr ?_;(case hd=> rfl);(case hg=> rfl);(case hr=> (go_simp;done));intro aO hg iP hbox hb;have aB:=am (hbox);have cH:=am (gsz hg HB.out);have cI:=am (gsz hg HB.out);replace HB:=am (below_step (HB.out) hb);have aZ:=am ((by rw[hg];exact Nat.ne_of_lt (blk_lt aA.out):aN≠aO));have a6:=am ((by rw[hg];exact Nat.ne_of_gt (blk_lt aA.out):aO≠aN));replace aA:=am (blk_below aA.out hb);clear hb hbox hg;have h9:=aZ.out;have iA:=a6.out;obtain⟨gN,gO,gP⟩:=bc3 aA.out;obtain⟨gQ,gR,gS⟩:=bf3 aA.out;obtain⟨gT,gU,gV⟩:=bc3 aB.out;obtain⟨gW,gX,gY⟩:=bf3 aB.out)|((with_reducible refine gate_callee (f:=75) rfl ?_);refine goesL_ (some 17) rfl rfl Tryz.func75 (by kernel_rfl) rfl #[i6 bB,i6 bD] rfl (by(try simp only[l_m,l_c,l_n]);rfl) ?_;(with_reducible refine(ententeref03_number.calls bB bD cK _ iK.out).mono ?_);rintro e w' ⟨rfl,⟨nd,rfl⟩⟩;refine⟨_,rfl,?_⟩))
  go_ret
  exact⟨by rfl,pw_below_drewN HB.out _⟩

/-! ### ententeref03_Same: function 57 -/
def ententeref03_Same.f (k:Nat) (aD:Int) (aE:Int) (aB:List (S46)) (aF:Int) (aG:Int) (aC:List (S46)):Option (Bool):=(ententeref03_Cmp.f k aD aE aB aF aG aC).bind fun aS=> (some (aS==0))
theorem ententeref03_Same.mono:∀ a0 a1 a2 a3 a4 a5 k,LeO (ententeref03_Same.f k a0 a1 a2 a3 a4 a5) (ententeref03_Same.f (k+1) a0 a1 a2 a3 a4 a5):=by
 intro a0 a1 a2 a3 a4 a5 k
 unfold ententeref03_Same.f
 repeat' with_reducible first|apply ententeref03_Cmp.mono|apply LeO.refl|apply LeO.none|refine LeO.ite ?_ ?_|refine LeO.bind ?_ (fun _=> ?_)
set_option maxHeartbeats 8000000 in
set_option maxRecDepth 100000 in
theorem ententeref03_Same.calls (k:Nat) (aD:Int) (aE:Int) (aK:Option Addr) (c0_2:Nat) (aB:List (S46)) (aF:Int) (aG:Int) (aL:Option Addr) (c1_2:Nat) (aC:List (S46)) (r:Bool) (w:World) (aM:Kd.C k46 w aK aB.length aB) (aN:aB.length≤c0_2) (aO:Kd.C k46 w aL aC.length aC) (aP:aC.length≤c1_2) (h:ententeref03_Same.f k aD aE aB aF aG aC=some r) :
  Calls Tryz.prog 57 #[.agg #[i6 aD,i6 aE,.slice aK aB.length c0_2],.agg #[i6 aF,i6 aG,.slice aL aC.length c1_2]] w fun e w'=> e=.returned (.bool r)∧Below w.heap.size w w':=by
 have hu24:=Tryz.underlying24
 have aT:=am aM
 have aU:=am aN
 clear aM aN
 have aV:=am aO
 have aW:=am aP
 clear aO aP
 have HB:=am (Below.refl w.heap.size w)
 unfold ententeref03_Same.f at h
 have H:=h
 clear h
 obtain⟨aS,bF,H⟩:=Option.bind_eq_some_iff.mp H
 try dsimp only at H
 have A3:=am bF
 clear bF
 obtain rfl:=Option.some.inj H
 go_enter Tryz.func57,Tryz.ntmps57
 go_wp2_with (first|((with_reducible refine gate_dst (N:=2) rfl ?_);refine box_event ?hg (N:=2) ?hd (cs:=#[i6 aD,i6 aE,.slice aK aB.length c0_2]) (t:=24) ?hr ?_;(case hd=> rfl);(case hg=> rfl);(case hr=> (go_simp;done));intro aQ hg w4 hbox hb;have aA:=am (hbox);have bG:=am (gsz hg HB.out);have bH:=am (gsz hg HB.out);replace HB:=am (below_step (HB.out) hb);clear hb hbox hg)|((with_reducible refine gate_dst (N:=3) rfl ?_);refine box_event ?hg (N:=3) ?hd (cs:=#[i6 aF,i6 aG,.slice aL aC.length c1_2]) (t:=24) ?hr ?_;(case hd=> rfl);(case hg=> rfl);(case hr=> (go_simp;done));intro aR hg w5 hbox hb;have aH:=am (hbox);have bI:=am (gsz hg HB.out);have bJ:=am (gsz hg HB.out);replace HB:=am (below_step (HB.out) hb);have aI:=am ((by rw[hg];exact Nat.ne_of_lt (blk_lt aA.out):aQ≠aR));have aJ:=am ((by rw[hg];exact Nat.ne_of_gt (blk_lt aA.out):aR≠aQ));replace aA:=am (blk_below aA.out hb);clear hb hbox hg;have bK:=aI.out;have bL:=aJ.out;obtain⟨aX,aY,aZ⟩:=bc3 aA.out;obtain⟨a6,a7,a8⟩:=bf3 aA.out;obtain⟨a9,bA,bB⟩:=bc3 aH.out;obtain⟨bC,bD,bE⟩:=bf3 aH.out)|((with_reducible refine gate_callee (f:=69) rfl ?_);refine goesL_ (some 7) rfl rfl Tryz.func69 (by kernel_rfl) rfl #[.agg #[i6 aD,i6 aE,.slice aK aB.length c0_2],.agg #[i6 aF,i6 aG,.slice aL aC.length c1_2]] rfl (by(try simp only[l_m,l_c,l_n]);rfl) ?_;(with_reducible refine(ententeref03_Cmp.calls k aD aE _ _ aB aF aG _ _ aC aS _ ?side1 ?side2 ?side3 ?side4 A3.out).mono ?_);(case side1=> exact(Kd.C_below aT.out HB.out));(case side2=> exact aU.out);(case side3=> exact(Kd.C_below aV.out HB.out));(case side4=> exact aW.out);rintro e w9 ⟨rfl,hb⟩;refine⟨_,rfl,?_⟩;replace aA:=am (blk_below aA.out hb);replace aH:=am (blk_below aH.out hb);replace HB:=am (below_step (HB.out) hb);clear hb))
 go_ret
 exact⟨by rfl,HB.out⟩

/-! ### ententeref13_SameNote: function 35 -/
def ententeref13_SameNote.f (k:Nat) (aO:Int) (aI:Int) (aJ:Int) (aG:List (S46)) (aM:ByteArray) (aP:Int) (aQ:Int) (aK:Int) (aL:Int) (aH:List (S46)) (aN:ByteArray) (aR:Int):Option (Bool):=if aO=aQ then((ententeref03_Same.f k aI aJ aG aK aL aH).bind fun bG=> (if bG=true then(if aM.toList=aN.toList then(some (aP==aR))else(some false))else(some false)))else(some false)
theorem ententeref13_SameNote.mono:∀ a0 a1 a2 a3 a4 a5 a6 a7 a8 a9 a10 a11 k,LeO (ententeref13_SameNote.f k a0 a1 a2 a3 a4 a5 a6 a7 a8 a9 a10 a11) (ententeref13_SameNote.f (k+1) a0 a1 a2 a3 a4 a5 a6 a7 a8 a9 a10 a11):=by
 intro a0 a1 a2 a3 a4 a5 a6 a7 a8 a9 a10 a11 k
 unfold ententeref13_SameNote.f
 repeat' with_reducible first|apply ententeref03_Same.mono|apply LeO.refl|apply LeO.none|refine LeO.ite ?_ ?_|refine LeO.bind ?_ (fun _=> ?_)
set_option maxHeartbeats 8000000 in
set_option maxRecDepth 100000 in
theorem ententeref13_SameNote.calls (k:Nat) (aO:Int) (aI:Int) (aJ:Int) (aS:Option Addr) (c0_3:Nat) (aG:List (S46)) (aM:ByteArray) (aP:Int) (aQ:Int) (aK:Int) (aL:Int) (aT:Option Addr) (c1_3:Nat) (aH:List (S46)) (aN:ByteArray) (aR:Int) (r:Bool) (w:World) (bC:Kd.C k46 w aS aG.length aG) (bD:aG.length≤c0_3) (bE:Kd.C k46 w aT aH.length aH) (bF:aH.length≤c1_3) (h:ententeref13_SameNote.f k aO aI aJ aG aM aP aQ aK aL aH aN aR=some r) :
  Calls Tryz.prog 35 #[.agg #[i6 aO,i6 aI,i6 aJ,.slice aS aG.length c0_3,.string aM,i6 aP],.agg #[i6 aQ,i6 aK,i6 aL,.slice aT aH.length c1_3,.string aN,i6 aR]] w fun e w'=> e=.returned (.bool r)∧Below w.heap.size w w':=by
 have hu26:=Tryz.underlying26
 have hu24:=Tryz.underlying24
 have aU:=am bC
 have aV:=am bD
 clear bC bD
 have aW:=am bE
 have aX:=am bF
 clear bE bF
 have HB:=am (Below.refl w.heap.size w)
 unfold ententeref13_SameNote.f at h
 have H:=h
 clear h
 by_cases c3:aO=aQ
 ·rw[if_pos c3]at H
  have fP:=beq_iff_eq.mpr c3
  have fQ:=bne_eq_false_iff_eq.mpr c3
  clear c3
  obtain⟨bG,fT,H⟩:=Option.bind_eq_some_iff.mp H
  try dsimp only at H
  have A4:=am fT
  clear fT
  by_cases c5:bG=true
  ·subst c5
   have H1:(if aM.toList=aN.toList then(some (aP==aR))else(some false))=some r:=by rw[if_pos rfl]at H;exact H
   clear H
   have H:=H1
   clear H1
   by_cases c6:aM.toList=aN.toList
   ·rw[if_pos c6]at H
    have fR:=beq_iff_eq.mpr c6
    have fS:=bne_eq_false_iff_eq.mpr c6
    clear c6
    obtain rfl:=Option.some.inj H
    go_enter Tryz.func35,Tryz.ntmps35
    go_wp2_with (first|((with_reducible refine gate_dst (N:=2) rfl ?_);refine box_event ?hg (N:=2) ?hd (cs:=#[i6 aO,i6 aI,i6 aJ,.slice aS aG.length c0_3,.string aM,i6 aP]) (t:=26) ?hr ?_;(case hd=> rfl);(case hg=> rfl);(case hr=> (go_simp;done));intro aE hg w7 hbox hb;have aA:=am (hbox);have aY:=am (gsz hg HB.out);have aZ:=am (gsz hg HB.out);replace HB:=am (below_step (HB.out) hb);clear hb hbox hg)|((with_reducible refine gate_dst (N:=3) rfl ?_);refine box_event ?hg (N:=3) ?hd (cs:=#[i6 aQ,i6 aK,i6 aL,.slice aT aH.length c1_3,.string aN,i6 aR]) (t:=26) ?hr ?_;(case hd=> rfl);(case hg=> rfl);(case hr=> (go_simp;done));intro aF hg w8 hbox hb;have aB:=am (hbox);have bA:=am (gsz hg HB.out);have bB:=am (gsz hg HB.out);replace HB:=am (below_step (HB.out) hb);have aC:=am ((by rw[hg];exact Nat.ne_of_lt (blk_lt aA.out):aE≠aF));have aD:=am ((by rw[hg];exact Nat.ne_of_gt (blk_lt aA.out):aF≠aE));replace aA:=am (blk_below aA.out hb);clear hb hbox hg;have f0:=aC.out;have f1:=aD.out;obtain⟨bH,bI,bJ,bK,bL,bM⟩:=bc6 aA.out;obtain⟨bN,bO,bP,bQ,bR,bS⟩:=bf6 aA.out;obtain⟨bT,bU,bV,bW,bX,bY⟩:=bc6 aB.out;obtain⟨bZ,b0,b1,b2,b3,b4⟩:=bf6 aB.out)|(go_at_call 57;(with_reducible refine(ententeref03_Same.calls k aI aJ _ _ aG aK aL _ _ aH true _ ?side1 ?side2 ?side3 ?side4 A4.out).mono ?_);(case side1=> exact(Kd.C_below aU.out HB.out));(case side2=> exact aV.out);(case side3=> exact(Kd.C_below aW.out HB.out));(case side4=> exact aX.out);rintro e f2 ⟨rfl,hb⟩;replace aA:=am (blk_below aA.out hb);replace aB:=am (blk_below aB.out hb);replace HB:=am (below_step (HB.out) hb);clear hb;obtain⟨b5,b6,b7,b8,b9,cA⟩:=bc6 aA.out;obtain⟨cB,cC,cD,cE,cF,cG⟩:=bf6 aA.out;obtain⟨cH,cI,cJ,cK,cL,cM⟩:=bc6 aB.out;obtain⟨cN,cO,cP,cQ,cR,cS⟩:=bf6 aB.out))
    go_ret
    exact⟨by rfl,HB.out⟩
   ·rw[if_neg c6]at H
    have fR:=beq_eq_false_iff_ne.mpr c6
    have fS:=bne_iff_ne.mpr c6
    obtain rfl:=Option.some.inj H
    go_enter Tryz.func35,Tryz.ntmps35
    go_wp2_with (first|((with_reducible refine gate_dst (N:=2) rfl ?_);refine box_event ?hg (N:=2) ?hd (cs:=#[i6 aO,i6 aI,i6 aJ,.slice aS aG.length c0_3,.string aM,i6 aP]) (t:=26) ?hr ?_;(case hd=> rfl);(case hg=> rfl);(case hr=> (go_simp;done));intro aE hg f3 hbox hb;have aA:=am (hbox);have aY:=am (gsz hg HB.out);have aZ:=am (gsz hg HB.out);replace HB:=am (below_step (HB.out) hb);clear hb hbox hg)|((with_reducible refine gate_dst (N:=3) rfl ?_);refine box_event ?hg (N:=3) ?hd (cs:=#[i6 aQ,i6 aK,i6 aL,.slice aT aH.length c1_3,.string aN,i6 aR]) (t:=26) ?hr ?_;(case hd=> rfl);(case hg=> rfl);(case hr=> (go_simp;done));intro aF hg f4 hbox hb;have aB:=am (hbox);have bA:=am (gsz hg HB.out);have bB:=am (gsz hg HB.out);replace HB:=am (below_step (HB.out) hb);have aC:=am ((by rw[hg];exact Nat.ne_of_lt (blk_lt aA.out):aE≠aF));have aD:=am ((by rw[hg];exact Nat.ne_of_gt (blk_lt aA.out):aF≠aE));replace aA:=am (blk_below aA.out hb);clear hb hbox hg;have fU:=aC.out;have fV:=aD.out;obtain⟨cT,cU,cV,cW,cX,cY⟩:=bc6 aA.out;obtain⟨cZ,c0,c1,dA,dB,dC⟩:=bf6 aA.out;obtain⟨dD,dE,dF,dG,dH,dI⟩:=bc6 aB.out;obtain⟨dJ,dK,dL,dM,dN,dO⟩:=bf6 aB.out)|(go_at_call 57;(with_reducible refine(ententeref03_Same.calls k aI aJ _ _ aG aK aL _ _ aH true _ ?side1 ?side2 ?side3 ?side4 A4.out).mono ?_);(case side1=> exact(Kd.C_below aU.out HB.out));(case side2=> exact aV.out);(case side3=> exact(Kd.C_below aW.out HB.out));(case side4=> exact aX.out);rintro e f5 ⟨rfl,hb⟩;replace aA:=am (blk_below aA.out hb);replace aB:=am (blk_below aB.out hb);replace HB:=am (below_step (HB.out) hb);clear hb;obtain⟨dP,dQ,dR,dS,dT,dU⟩:=bc6 aA.out;obtain⟨dV,dW,dX,dY,dZ,d0⟩:=bf6 aA.out;obtain⟨d1,d2,d3,d4,d5,d6⟩:=bc6 aB.out;obtain⟨d7,d8,d9,eA,eB,eC⟩:=bf6 aB.out))
    go_ret
    exact⟨by rfl,HB.out⟩
  ·replace c5:=Bool.eq_false_iff.mpr c5
   subst c5
   have H1:(some false)=some r:=by rw[if_neg (show ¬ (false=true)by decide)]at H;exact H
   clear H
   have H:=H1
   clear H1
   obtain rfl:=Option.some.inj H
   go_enter Tryz.func35,Tryz.ntmps35
   go_wp2_with (first|((with_reducible refine gate_dst (N:=2) rfl ?_);refine box_event ?hg (N:=2) ?hd (cs:=#[i6 aO,i6 aI,i6 aJ,.slice aS aG.length c0_3,.string aM,i6 aP]) (t:=26) ?hr ?_;(case hd=> rfl);(case hg=> rfl);(case hr=> (go_simp;done));intro aE hg f6 hbox hb;have aA:=am (hbox);have aY:=am (gsz hg HB.out);have aZ:=am (gsz hg HB.out);replace HB:=am (below_step (HB.out) hb);clear hb hbox hg)|((with_reducible refine gate_dst (N:=3) rfl ?_);refine box_event ?hg (N:=3) ?hd (cs:=#[i6 aQ,i6 aK,i6 aL,.slice aT aH.length c1_3,.string aN,i6 aR]) (t:=26) ?hr ?_;(case hd=> rfl);(case hg=> rfl);(case hr=> (go_simp;done));intro aF hg f7 hbox hb;have aB:=am (hbox);have bA:=am (gsz hg HB.out);have bB:=am (gsz hg HB.out);replace HB:=am (below_step (HB.out) hb);have aC:=am ((by rw[hg];exact Nat.ne_of_lt (blk_lt aA.out):aE≠aF));have aD:=am ((by rw[hg];exact Nat.ne_of_gt (blk_lt aA.out):aF≠aE));replace aA:=am (blk_below aA.out hb);clear hb hbox hg;have fW:=aC.out;have fX:=aD.out;obtain⟨eD,eE,eF,eG,eH,eI⟩:=bc6 aA.out;obtain⟨eJ,eK,eL,eM,eN,eO⟩:=bf6 aA.out;obtain⟨eP,eQ,eR,eS,eT,eU⟩:=bc6 aB.out;obtain⟨eV,eW,eX,eY,eZ,e0⟩:=bf6 aB.out)|(go_at_call 57;(with_reducible refine(ententeref03_Same.calls k aI aJ _ _ aG aK aL _ _ aH false _ ?side1 ?side2 ?side3 ?side4 A4.out).mono ?_);(case side1=> exact(Kd.C_below aU.out HB.out));(case side2=> exact aV.out);(case side3=> exact(Kd.C_below aW.out HB.out));(case side4=> exact aX.out);rintro e f8 ⟨rfl,hb⟩;replace aA:=am (blk_below aA.out hb);replace aB:=am (blk_below aB.out hb);replace HB:=am (below_step (HB.out) hb);clear hb))
   go_ret
   exact⟨by rfl,HB.out⟩
 ·rw[if_neg c3]at H
  have fP:=beq_eq_false_iff_ne.mpr c3
  have fQ:=bne_iff_ne.mpr c3
  obtain rfl:=Option.some.inj H
  go_enter Tryz.func35,Tryz.ntmps35
  go_wp2_with (first|((with_reducible refine gate_dst (N:=2) rfl ?_);refine box_event ?hg (N:=2) ?hd (cs:=#[i6 aO,i6 aI,i6 aJ,.slice aS aG.length c0_3,.string aM,i6 aP]) (t:=26) ?hr ?_;(case hd=> rfl);(case hg=> rfl);(case hr=> (go_simp;done));intro aE hg f9 hbox hb;have aA:=am (hbox);have aY:=am (gsz hg HB.out);have aZ:=am (gsz hg HB.out);replace HB:=am (below_step (HB.out) hb);clear hb hbox hg)|((with_reducible refine gate_dst (N:=3) rfl ?_);refine box_event ?hg (N:=3) ?hd (cs:=#[i6 aQ,i6 aK,i6 aL,.slice aT aH.length c1_3,.string aN,i6 aR]) (t:=26) ?hr ?_;(case hd=> rfl);(case hg=> rfl);(case hr=> (go_simp;done));intro aF hg gA hbox hb;have aB:=am (hbox);have bA:=am (gsz hg HB.out);have bB:=am (gsz hg HB.out);replace HB:=am (below_step (HB.out) hb);have aC:=am ((by rw[hg];exact Nat.ne_of_lt (blk_lt aA.out):aE≠aF));have aD:=am ((by rw[hg];exact Nat.ne_of_gt (blk_lt aA.out):aF≠aE));replace aA:=am (blk_below aA.out hb);clear hb hbox hg;have fY:=aC.out;have fZ:=aD.out;obtain⟨e1,e2,e3,e4,e5,e6⟩:=bc6 aA.out;obtain⟨e7,e8,e9,fA,fB,fC⟩:=bf6 aA.out;obtain⟨fD,fE,fF,fG,fH,fI⟩:=bc6 aB.out;obtain⟨fJ,fK,fL,fM,fN,fO⟩:=bf6 aB.out))
  go_ret
  exact⟨by rfl,HB.out⟩

end Go.Proofs.YtlaeihdldofkcaaGreatDoor.PN

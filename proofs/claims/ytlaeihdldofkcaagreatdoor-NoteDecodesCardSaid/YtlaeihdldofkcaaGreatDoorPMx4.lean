/- The machine side of this seat's laws: plain functions, and proofs that the calls do what they say; written by a program of this session over the translation; no conditions beyond those typed. -/
import Derived.Test.YtlaeihdldofkcaaGreatDoorPMx0
import Derived.Test.YtlaeihdldofkcaaGreatDoorPMx3
namespace Go.Proofs.YtlaeihdldofkcaaGreatDoor.PN
open Go.RowKit Go.Proofs.YtlaeihdldofkcaaGreatDoorW.PrintWords Go.Proofs.YtlaeihdldofkcaaGreatDoorW.PrintLast Go.Proofs.YtlaeihdldofkcaaGreatDoorW.PrintMore
attribute [local go_sem] max2_int min2_int max_two min_two max_three min_three max_four min_four   -- for this text's walks alone
open List renaming setIfInBounds_toArray → l_a, set_cons_zero → l_z, set_cons_succ → l_s, map_toArray → l_m, map_cons → l_c, map_nil → l_n
set_option linter.unusedVariables false
set_option linter.unusedSimpArgs false

/-! ### note_place_text: function 54 -/
def note_place_text.f (k:Nat) (aA:ByteArray) (aB:Int) (aC:Bool):Option (ByteArray×ByteArray×Int×Bool):=(pack_TakeText.f k aA aB).bind fun aD=> (if aC=true then(some ((⟨#[]⟩:ByteArray),aA,aB,true))else(if aD.2.2=0 then(some (aD.1,aA,aD.2.1,aC))else(some ((⟨#[]⟩:ByteArray),aA,aB,true))))
theorem note_place_text.mono:∀ a0 a1 a2 k,LeO (note_place_text.f k a0 a1 a2) (note_place_text.f (k+1) a0 a1 a2):=by
 intro a0 a1 a2 k
 unfold note_place_text.f
 repeat' with_reducible first|apply pack_TakeText.mono|apply LeO.refl|apply LeO.none|refine LeO.ite ?_ ?_|refine LeO.bind ?_ (fun _=> ?_)
set_option maxHeartbeats 8000000 in
set_option maxRecDepth 100000 in
theorem note_place_text.calls (k:Nat) (g:Nat) (aA:ByteArray) (aB:Int) (aC:Bool) (r1:ByteArray) (r2:ByteArray) (r3:Int) (r4:Bool) (w0 w:World) (hI:IsS68 w0 w g aA aB aC) (hB:Below w0.heap.size w0 w) (h:note_place_text.f k aA aB aC=some (r1,r2,r3,r4)) :
  Calls Tryz.prog 54 #[.pointer (some ⟨g,0,none⟩)] w fun e w'=> e=.returned (.string r1)∧IsS68 w0 w' g r2 r3 r4∧Below w0.heap.size w0 w'∧KeepBut w w' g none:=by
 have HI0:=am hI
 have HK:=am (KeepBut.refl w g none)
 have HL:=am hB.size
 clear hI
 have HW0:=am hB.size
 have HB:=am hB
 clear hB
 unfold note_place_text.f at h
 have H:=h
 clear h
 obtain⟨⟨aF,aG,aE⟩,a4,H⟩:=Option.bind_eq_some_iff.mp H
 try dsimp only at H
 have A2:=am a4
 clear a4
 by_cases c3:aC=true
 ·subst c3
  have H1:(some ((⟨#[]⟩:ByteArray),aA,aB,true))=some (r1,r2,r3,r4):=by rw[if_pos rfl]at H;exact H
  clear H
  have H:=H1
  clear H1
  simp only[Option.some.injEq,Prod.mk.injEq]at H
  obtain⟨rfl,rfl,rfl,rfl⟩:=H
  obtain⟨HGz4,hgz4⟩:=HI0.out
  have aH:=cellS68_0 HGz4
  have aI:=cellS68_1 HGz4
  have aJ:=cellS68_2 HGz4
  have aK:=blk_frozen HGz4 0
  have aL:=blk_frozen HGz4 1
  have aM:=blk_frozen HGz4 2
  clear HGz4 hgz4
  go_enter Tryz.func54,Tryz.ntmps54
  go_wp2_with (fail)
  repeat(go_quiet (first|(go_at_call 67;(with_reducible refine(pack_TakeText.calls k aA aB aF aG aE _ A2.out).mono ?_);rintro e w' ⟨rfl,⟨nd,rfl⟩⟩;(try exact⟨rfl,_,World.drewN_drewN _ _ _⟩)));try go_wp2_with (fail))
  go_ret
  exact⟨by rfl,by repeat(with_reducible first|exact HI0.out|apply IsS68.drewN|apply IsS68.set_2),by repeat(with_reducible first|exact HB.out|apply pw_below_drewN|refine below_set ?_ (IsS68.ge HI0.out)),by repeat(with_reducible first|exact HK.out|apply KeepBut.set_|apply keep_drewN)⟩
 ·replace c3:=Bool.eq_false_iff.mpr c3
  subst c3
  have H1:(if aE=0 then(some (aF,aA,aG,false))else(some ((⟨#[]⟩:ByteArray),aA,aB,true)))=some (r1,r2,r3,r4):=by rw[if_neg (show ¬ (false=true)by decide)]at H;exact H
  clear H
  have H:=H1
  clear H1
  by_cases c5:aE=0
  ·rw[if_pos c5]at H
   have aN:=beq_iff_eq.mpr c5
   have aO:=bne_eq_false_iff_eq.mpr c5
   clear c5
   simp only[Option.some.injEq,Prod.mk.injEq]at H
   obtain⟨rfl,rfl,rfl,rfl⟩:=H
   obtain⟨HGz6,hgz6⟩:=HI0.out
   have aP:=cellS68_0 HGz6
   have aQ:=cellS68_1 HGz6
   have aR:=cellS68_2 HGz6
   have aS:=blk_frozen HGz6 0
   have aT:=blk_frozen HGz6 1
   have aU:=blk_frozen HGz6 2
   clear HGz6 hgz6
   go_enter Tryz.func54,Tryz.ntmps54
   go_wp2_with (fail)
   repeat(go_quiet (first|(go_at_call 67;(with_reducible refine(pack_TakeText.calls k aA aB aF aG aE _ A2.out).mono ?_);rintro e w' ⟨rfl,⟨nd,rfl⟩⟩;(try exact⟨rfl,_,World.drewN_drewN _ _ _⟩)));try go_wp2_with (fail))
   go_ret
   exact⟨by rfl,by repeat(with_reducible first|exact HI0.out|apply IsS68.drewN|apply IsS68.set_1),by repeat(with_reducible first|exact HB.out|apply pw_below_drewN|refine below_set ?_ (IsS68.ge HI0.out)),by repeat(with_reducible first|exact HK.out|apply KeepBut.set_|apply keep_drewN)⟩
  ·rw[if_neg c5]at H
   have aN:=beq_eq_false_iff_ne.mpr c5
   have aO:=bne_iff_ne.mpr c5
   simp only[Option.some.injEq,Prod.mk.injEq]at H
   obtain⟨rfl,rfl,rfl,rfl⟩:=H
   obtain⟨HGz7,hgz7⟩:=HI0.out
   have aV:=cellS68_0 HGz7
   have aW:=cellS68_1 HGz7
   have aX:=cellS68_2 HGz7
   have aY:=blk_frozen HGz7 0
   have aZ:=blk_frozen HGz7 1
   have a3:=blk_frozen HGz7 2
   clear HGz7 hgz7
   go_enter Tryz.func54,Tryz.ntmps54
   go_wp2_with (fail)
   repeat(go_quiet (first|(go_at_call 67;(with_reducible refine(pack_TakeText.calls k aA aB aF aG aE _ A2.out).mono ?_);rintro e w' ⟨rfl,⟨nd,rfl⟩⟩;(try exact⟨rfl,_,World.drewN_drewN _ _ _⟩)));try go_wp2_with (fail))
   go_ret
   exact⟨by rfl,by repeat(with_reducible first|exact HI0.out|apply IsS68.drewN|apply IsS68.set_2),by repeat(with_reducible first|exact HB.out|apply pw_below_drewN|refine below_set ?_ (IsS68.ge HI0.out)),by repeat(with_reducible first|exact HK.out|apply KeepBut.set_|apply keep_drewN)⟩

/-! ### note_reader_frame: function 30 -/
def note_reader_frame.j0:Nat→ByteArray→Int→Bool→Int→Int→Int→Int→Int→Int→Int→Int→Int→ByteArray→Int→Int→Int→List (S46)→Option (Int×Int×Int×Int×Int×Int×Int×Int×Int×(List (S46))×ByteArray×Int×ByteArray×Int×Bool)
 |0,_,_,_,_,_,_,_,_,_,_,_,_,_,_,_,_,_=> none
 |k+1,eU,eV,eW,cA,cB,cC,cD,cE,cF,cG,fM,fN,fO,fP,cH,cI,cJ=> (note_place_text.f k eU eV eW).bind fun bU=> ((note_place_number.f k bU.2.1 bU.2.2.1 bU.2.2.2).bind fun bV=> (some (cA,cB,cC,cD,cE,cF,cG,cH,cI,cJ,bU.1,bV.1,bV.2.1,bV.2.2.1,bV.2.2.2)))
def note_reader_frame.f (k:Nat) (a8:ByteArray) (a9:Int) (bA:Bool):Option (Int×Int×Int×Int×Int×Int×Int×Int×Int×(List (S46))×ByteArray×Int×ByteArray×Int×Bool):=(note_place_number.f k a8 a9 bA).bind fun bJ=> ((note_place_number.f k bJ.2.1 bJ.2.2.1 bJ.2.2.2).bind fun bK=> ((note_place_number.f k bK.2.1 bK.2.2.1 bK.2.2.2).bind fun bL=> ((note_place_number.f k bL.2.1 bL.2.2.1 bL.2.2.2).bind fun bG=> ((note_place_number.f k bG.2.1 bG.2.2.1 bG.2.2.2).bind fun bM=> ((note_place_number.f k bM.2.1 bM.2.2.1 bM.2.2.2).bind fun bB=> (if bG.1> 0 then((note_place_number.f k bB.2.1 bB.2.2.1 bB.2.2.2).bind fun bS=> ((note_place_text.f k bS.2.1 bS.2.2.1 bS.2.2.2).bind fun bN=> ((ident_Parse.f k bN.1).bind fun bH=> (if bN.2.2.2=true then(note_reader_frame.j0 k bN.2.1 bN.2.2.1 true bJ.1 bK.1 bL.1 bG.1 bM.1 bB.1 bS.1 0 0 (⟨#[]⟩:ByteArray) 0 bH.1 bH.2.1 bH.2.2.1)else(note_reader_frame.j0 k bN.2.1 bN.2.2.1 (bH.2.2.2 !=0) bJ.1 bK.1 bL.1 bG.1 bM.1 bB.1 bS.1 0 0 (⟨#[]⟩:ByteArray) 0 bH.1 bH.2.1 bH.2.2.1)))))else(some (bJ.1,bK.1,bL.1,bG.1,bM.1,bB.1,0,0,0,([]:List (S46)),(⟨#[]⟩:ByteArray),0,bB.2.1,bB.2.2.1,bB.2.2.2))))))))
theorem note_reader_frame.mono_l:∀ k,(∀ y0 y1 y2 y3 y4 y5 y6 y7 y8 y9 jN jO jP jQ jR jS jT,LeO (note_reader_frame.j0 k y0 y1 y2 y3 y4 y5 y6 y7 y8 y9 jN jO jP jQ jR jS jT) (note_reader_frame.j0 (k+1) y0 y1 y2 y3 y4 y5 y6 y7 y8 y9 jN jO jP jQ jR jS jT))
 |0=> fun _ _ _ _ _ _ _ _ _ _ _ _ _ _ _ _ _ r h=> by simp[note_reader_frame.j0]at h
 |k+1=> by
  have ih0:=note_reader_frame.mono_l k
  ·intro y0 y1 y2 y3 y4 y5 y6 y7 y8 y9 jN jO jP jQ jR jS jT
   unfold note_reader_frame.j0
   repeat' with_reducible first|apply ih0|apply ident_Parse.mono|apply note_place_number.mono|apply note_place_text.mono|apply LeO.refl|apply LeO.none|refine LeO.ite ?_ ?_|refine LeO.bind ?_ (fun _=> ?_)
theorem note_reader_frame.mono:∀ a0 a1 a2 k,LeO (note_reader_frame.f k a0 a1 a2) (note_reader_frame.f (k+1) a0 a1 a2):=by
 intro a0 a1 a2 k
 have ih0:=note_reader_frame.mono_l k
 unfold note_reader_frame.f
 repeat' with_reducible first|apply ih0|apply ident_Parse.mono|apply note_place_number.mono|apply note_place_text.mono|apply LeO.refl|apply LeO.none|refine LeO.ite ?_ ?_|refine LeO.bind ?_ (fun _=> ?_)
def note_reader_frame.T2:Bool×List (List Nat×List Nat):=(true,[([],[]),([0],[0]),([1],[1]),([2],[2]),([],[]),([4],[4]),([5],[5]),([6,3],[6]),([],[]),([8],[8]),([9],[9]),([10,7],[10]),([0,1,2,3],[]),([12,3,11,0,1,2,3],[3,12]),([0,1,2,3,4,5,6,7,12,13],[]),([14,7,13,0,1,2,3,4,5,6,7,12,13],[7,14]),([0,1,2,3,4,5,6,7,8,9,10,11,12,13,14,15],[]),([16,11,15,0,1,2,3,4,5,6,7,8,9,10,11,12,13,14,15],[11,16])])
def note_reader_frame.B2:List Nat:=[0,1,3,7,0,16,48,127,0,256,768,2047,15,8191,16383,32767,65535,131071]
theorem note_reader_frame.tab2:rtab .any (opsOf Tryz.f30 2)=note_reader_frame.T2:=by kernel_rfl
theorem note_reader_frame.bits2:waitsOk note_reader_frame.T2.2 note_reader_frame.B2=true:=by kernel_rfl
def note_reader_frame.T3:Bool×List (List Nat×List Nat):=(true,[([],[]),([0],[0]),([1],[1]),([2],[2]),([],[]),([4],[4]),([5],[5]),([6,3],[6]),([],[]),([8],[8]),([9],[9]),([10,7],[10]),([0,1,2,3],[]),([12,3,11,0,1,2,3],[3,12]),([0,1,2,3,4,5,6,7,12,13],[]),([14,7,13,0,1,2,3,4,5,6,7,12,13],[7,14]),([0,1,2,3,4,5,6,7,8,9,10,11,12,13,14,15],[]),([16,11,15,0,1,2,3,4,5,6,7,8,9,10,11,12,13,14,15],[11,16])])
def note_reader_frame.B3:List Nat:=[0,1,3,7,0,16,48,127,0,256,768,2047,15,8191,16383,32767,65535,131071]
theorem note_reader_frame.tab3:rtab .any (opsOf Tryz.f30 3)=note_reader_frame.T3:=by kernel_rfl
theorem note_reader_frame.bits3:waitsOk note_reader_frame.T3.2 note_reader_frame.B3=true:=by kernel_rfl
def note_reader_frame.T8:Bool×List (List Nat×List Nat):=(true,[([],[]),([],[]),([1],[1]),([2],[2]),([3],[3]),([],[]),([5],[5]),([6],[6]),([7,4],[7]),([0],[]),([9,0],[9]),([10,0,8,0],[0,10]),([0,1,2,3,4,9,10,11],[]),([12,0,1,2,3,4,9,10,11],[12]),([13,4,11,0,1,2,3,4,9,10,11],[4,13]),([0,1,2,3,4,5,6,7,8,9,10,11,12,13,14],[]),([15,0,1,2,3,4,5,6,7,8,9,10,11,12,13,14],[15]),([16,8,14,0,1,2,3,4,5,6,7,8,9,10,11,12,13,14],[8,16])])
def note_reader_frame.B8:List Nat:=[0,0,2,6,14,0,32,96,254,1,513,2047,4095,8191,16383,32767,65535,131071]
theorem note_reader_frame.tab8:rtab .any (opsOf Tryz.f30 8)=note_reader_frame.T8:=by kernel_rfl
theorem note_reader_frame.bits8:waitsOk note_reader_frame.T8.2 note_reader_frame.B8=true:=by kernel_rfl
set_option maxHeartbeats 8000000 in
set_option maxRecDepth 100000 in
theorem note_reader_frame.calls (k:Nat) (g:Nat) (a8:ByteArray) (a9:Int) (bA:Bool) (r1:Int) (r2:Int) (r3:Int) (r4:Int) (r5:Int) (r6:Int) (r7:Int) (r8:Int) (r9:Int) (r10:List (S46)) (r11:ByteArray) (r12:Int) (r13:ByteArray) (r14:Int) (r15:Bool) (w0 w:World) (hI:IsS68 w0 w g a8 a9 bA) (hB:Below w0.heap.size w0 w) (hw_:WH w0) (h:note_reader_frame.f k a8 a9 bA=some (r1,r2,r3,r4,r5,r6,r7,r8,r9,r10,r11,r12,r13,r14,r15)) :
  Calls Tryz.prog 30 #[.pointer (some ⟨g,0,none⟩)] w fun e w'=> ∃ v9_:Value,e=.returned (.agg #[i6 r1,i6 r2,i6 r3,i6 r4,i6 r5,i6 r6,i6 r7,i6 r8,i6 r9,v9_,.string r11,i6 r12])∧Kd.R k46 46 w' w.heap.size (fun _=> True) v9_ r10∧IsS68 w0 w' g r13 r14 r15∧Below w0.heap.size w0 w'∧KeepBut w w' g none:=by
 have hu28:=Tryz.underlying28
 have hu24:=Tryz.underlying24
 have HWH_:=am hw_
 clear hw_
 have HI0:=am hI
 have HK:=am (KeepBut.refl w g none)
 have HL:=am hB.size
 clear hI
 have HW0:=am hB.size
 have HB:=am hB
 clear hB
 unfold note_reader_frame.f at h
 have H:=h
 clear h
 obtain⟨⟨aI,cK,cL,cM⟩,j1,H⟩:=Option.bind_eq_some_iff.mp H
 try dsimp only at H
 have A2:=am j1
 clear j1
 obtain⟨⟨aK,cN,cO,cP⟩,j2,H⟩:=Option.bind_eq_some_iff.mp H
 try dsimp only at H
 have A3:=am j2
 clear j2
 obtain⟨⟨aL,bW,bX,bY⟩,j3,H⟩:=Option.bind_eq_some_iff.mp H
 try dsimp only at H
 have A4:=am j3
 clear j3
 obtain⟨⟨aN,cQ,cR,cS⟩,j4,H⟩:=Option.bind_eq_some_iff.mp H
 try dsimp only at H
 have A5:=am j4
 clear j4
 obtain⟨⟨aV,cT,cU,cV⟩,j5,H⟩:=Option.bind_eq_some_iff.mp H
 try dsimp only at H
 have A6:=am j5
 clear j5
 obtain⟨⟨aX,eN,eO,eP⟩,j6,H⟩:=Option.bind_eq_some_iff.mp H
 try dsimp only at H
 have A7:=am j6
 clear j6
 by_cases c8:aN> 0
 ·rw[if_pos c8]at H
  have jU:decide (0< aN)=true:=decide_eq_true c8
  clear c8
  obtain⟨⟨a7,eX,eY,eZ⟩,j7,H⟩:=Option.bind_eq_some_iff.mp H
  try dsimp only at H
  have A9:=am j7
  clear j7
  obtain⟨⟨eQ,bP,bQ,cW⟩,e0,H⟩:=Option.bind_eq_some_iff.mp H
  try dsimp only at H
  have kY:=am e0
  clear e0
  obtain⟨⟨aZ,a6,a3,cX⟩,e1,H⟩:=Option.bind_eq_some_iff.mp H
  try dsimp only at H
  have kZ:=am e1
  clear e1
  have HC12:=am H
  clear H
  go_enter Tryz.func30,Tryz.ntmps30
  try go_wp2_with (first|((with_reducible refine gate_dst (N:=2) rfl ?_);refine box_event ?hg (N:=2) ?hd (cs:=#[i6 0,i6 0,i6 0,i6 0,i6 0,i6 0,i6 0,i6 0,i6 0,.slice none 0 0,.string (⟨#[]⟩:ByteArray),i6 0]) (t:=28) ?hr ?_;(case hd=> rfl);(case hg=> rfl);(case hr=> (go_simp;done));intro aG hg k7 hbox hb;replace HB:=am (below_step (HB.out) hb);have aC:=am (hbox);have bZ:=am ((by rw[hg];exact(keep_size (w:=w) (g:=g) (row:=none) (HK.out)):w.heap.size≤aG));have b0:=am ((Nat.le_trans HW0.out (by rw[hg];exact(keep_size (w:=w) (g:=g) (row:=none) (HK.out)):w.heap.size≤aG):w0.heap.size≤aG));replace HK:=am (KeepBut.trans (HK.out) (KeepBut.of_below hb g none) (.inl rfl));have bC:=am ((by rw[hg];exact Nat.ne_of_lt (IsS68.lt (show IsS68 w0 _ g a8 a9 bA from HI0.out)):g≠aG));have aJ:=am ((by rw[hg];exact Nat.ne_of_gt (IsS68.lt (show IsS68 w0 _ g a8 a9 bA from HI0.out)):aG≠g));replace HI0:=am (IsS68.below (HI0.out) hb);clear hb hbox hg)|((with_reducible refine gate_dst (N:=3) rfl ?_);refine box_event ?hg (N:=3) ?hd (cs:=#[i6 0,i6 0,i6 0,i6 0,i6 0,i6 0,i6 0,i6 0,i6 0,.slice none 0 0,.string (⟨#[]⟩:ByteArray),i6 0]) (t:=28) ?hr ?_;(case hd=> rfl);(case hg=> rfl);(case hr=> (go_simp;done));intro aB hg k0 hbox hb;replace HB:=am (below_step (HB.out) hb);have aA:=am (hbox);have aY:=am ((by rw[hg];exact(keep_size (w:=w) (g:=g) (row:=none) (HK.out)):w.heap.size≤aB));have bI:=am ((Nat.le_trans HW0.out (by rw[hg];exact(keep_size (w:=w) (g:=g) (row:=none) (HK.out)):w.heap.size≤aB):w0.heap.size≤aB));replace HK:=am (KeepBut.trans (HK.out) (KeepBut.of_below hb g none) (.inl rfl));have aD:=am ((by rw[hg];exact Nat.ne_of_lt (blk_lt aC.out):aG≠aB));have aF:=am ((by rw[hg];exact Nat.ne_of_gt (blk_lt aC.out):aB≠aG));replace aC:=am (blk_below aC.out hb);have aW:=am ((by rw[hg];exact Nat.ne_of_lt (IsS68.lt (show IsS68 w0 _ g a8 a9 bA from HI0.out)):g≠aB));have aH:=am ((by rw[hg];exact Nat.ne_of_gt (IsS68.lt (show IsS68 w0 _ g a8 a9 bA from HI0.out)):aB≠g));replace HI0:=am (IsS68.below (HI0.out) hb);clear hb hbox hg))
  have aP:=am (blk_drew aC.out)
  have aQ:=am (blk_drew aA.out)
  have aR:=am (IsS68.drew HI0.out)
  have aS:=am (keep_drew HK.out)
  have aT:=am (below_drew1 HB.out)
  clear aC aA HI0 HK HB
  have aC:=aP
  have aA:=aQ
  have HI0:=aR
  have HK:=aS
  have HB:=aT
  clear aP aQ aR aS aT
  refine start_ (n:=18) (S:=fun w'=> True) (ds:=[]) (rl [0,18]) (by kernel_rfl) rfl rfl trivial (fun hHeld=> ?_);refine with_tabW note_reader_frame.tab2 note_reader_frame.bits2 (fun HT_ HW_=> ?_)
  generalize k0.drew=k8 at aC aA HI0 HK HB hHeld ⊢
  refine pure_ (i:=0) (N:=some 6) (v:=?_) (a':=?_) (rl [1,17]) rfl rfl (any_of HT_.out (by kernel_rfl)) (fun _ _ _ h=> h) (Or.inl ⟨by rfl,?_⟩) ?_ ?_
  rotate_left
  ·intro w'
   go_simp
   with_reducible rfl
  rotate_left
  ·simp only[Act.put,l_a,l_z,l_s,i64_w,i32_w]
   rfl
  refine pure_ (i:=1) (N:=some 7) (v:=?_) (a':=?_) (rl [2,16]) rfl rfl (any_of HT_.out (by kernel_rfl)) (fun _ _ _ h=> h) (Or.inl ⟨by rfl,?_⟩) ?_ ?_
  rotate_left
  ·intro w'
   go_simp
   with_reducible rfl
  rotate_left
  ·simp only[Act.put,l_a,l_z,l_s,i64_w,i32_w]
   rfl
  refine pure_ (i:=2) (N:=some 8) (v:=?_) (a':=?_) (rl [3,15]) rfl rfl (any_of HT_.out (by kernel_rfl)) (fun _ _ _ h=> h) (Or.inl ⟨by rfl,?_⟩) ?_ ?_
  rotate_left
  ·intro w'
   go_simp
   with_reducible rfl
  rotate_left
  ·simp only[Act.put,l_a,l_z,l_s,i64_w,i32_w]
   rfl
  refine pure_ (i:=4) (N:=some 10) (v:=?_) (a':=?_) (rl [3,1,1,13]) rfl rfl (any_of HT_.out (by kernel_rfl)) (fun _ _ _ h=> h) (Or.inl ⟨by rfl,?_⟩) ?_ ?_
  rotate_left
  ·intro w'
   go_simp
   with_reducible rfl
  rotate_left
  ·simp only[Act.put,l_a,l_z,l_s,i64_w,i32_w]
   rfl
  refine pure_ (i:=5) (N:=some 11) (v:=?_) (a':=?_) (rl [3,1,2,12]) rfl rfl (any_of HT_.out (by kernel_rfl)) (fun _ _ _ h=> h) (Or.inl ⟨by rfl,?_⟩) ?_ ?_
  rotate_left
  ·intro w'
   go_simp
   with_reducible rfl
  rotate_left
  ·simp only[Act.put,l_a,l_z,l_s,i64_w,i32_w]
   rfl
  refine pure_ (i:=6) (N:=some 12) (v:=?_) (a':=?_) (rl [3,1,3,11]) rfl rfl (any_of HT_.out (by kernel_rfl)) (fun _ _ _ h=> h) (Or.inl ⟨by rfl,?_⟩) ?_ ?_
  rotate_left
  ·intro w'
   go_simp
   with_reducible rfl
  rotate_left
  ·simp only[Act.put,l_a,l_z,l_s,i64_w,i32_w]
   rfl
  refine pure_ (i:=8) (N:=some 14) (v:=?_) (a':=?_) (rl [3,1,3,1,1,9]) rfl rfl (any_of HT_.out (by kernel_rfl)) (fun _ _ _ h=> h) (Or.inl ⟨by rfl,?_⟩) ?_ ?_
  rotate_left
  ·intro w'
   go_simp
   with_reducible rfl
  rotate_left
  ·simp only[Act.put,l_a,l_z,l_s,i64_w,i32_w]
   rfl
  refine pure_ (i:=9) (N:=some 15) (v:=?_) (a':=?_) (rl [3,1,3,1,2,8]) rfl rfl (any_of HT_.out (by kernel_rfl)) (fun _ _ _ h=> h) (Or.inl ⟨by rfl,?_⟩) ?_ ?_
  rotate_left
  ·intro w'
   go_simp
   with_reducible rfl
  rotate_left
  ·simp only[Act.put,l_a,l_z,l_s,i64_w,i32_w]
   rfl
  refine pure_ (i:=10) (N:=some 16) (v:=?_) (a':=?_) (rl [3,1,3,1,3,7]) rfl rfl (any_of HT_.out (by kernel_rfl)) (fun _ _ _ h=> h) (Or.inl ⟨by rfl,?_⟩) ?_ ?_
  rotate_left
  ·intro w'
   go_simp
   with_reducible rfl
  rotate_left
  ·simp only[Act.put,l_a,l_z,l_s,i64_w,i32_w]
   rfl
  refine one_ (i:=3) (N:=some 9) (rl [7,1,3,7]) rfl rfl (one_of HT_.out (by kernel_rfl)) (by decide) (fun K hK=> ?_)
  refine goes_ Tryz.func52 (by kernel_rfl) rfl #[.pointer (some ⟨g,0,none⟩)] (by rfl) rfl rfl (by(try simp only[l_m,l_c,l_n]);rfl) ?_
  with_reducible refine(note_place_number.calls k g a8 a9 bA aI cK cL cM w0 _ ?side1 ?side2 A2.out).mono ?_
  (case side1=> exact HI0.out)
  (case side2=> exact HB.out)
  rintro e k9 ⟨rfl,hi,hb,hk⟩
  refine⟨_,rfl,?_⟩
  have aP:=am (KeepBut.blk hk (g':=aG) (o:=.cells #[i6 0,i6 0,i6 0,i6 0,i6 0,i6 0,i6 0,i6 0,i6 0,.slice none 0 0,.string (⟨#[]⟩:ByteArray),i6 0] 28 (0,0)) (by exact aC.out) aJ.out (by simp))
  have aQ:=am (KeepBut.blk hk (g':=aB) (o:=.cells #[i6 0,i6 0,i6 0,i6 0,i6 0,i6 0,i6 0,i6 0,i6 0,.slice none 0 0,.string (⟨#[]⟩:ByteArray),i6 0] 28 (0,0)) (by exact aA.out) aH.out (by simp))
  have aR:=am (KeepBut.trans (HK.out) hk (.inl rfl))
  have aS:=am (hb)
  have aT:=am (hi)
  clear aC aA HK HB HI0
  have aC:=aP
  have aA:=aQ
  have HK:=aR
  have HB:=aS
  have HI0:=aT
  clear aP aQ aR aS aT
  clear hb
  clear hk
  clear hi
  refine hK.out _ _ trivial (fun hHeld=> ?_)
  clear hK K
  refine norm_ (a':=?_) ?_ ?_
  rotate_left
  ·show Act.put _ (some 9) _=_
   simp only[Act.put,l_a,l_z,l_s,i64_w,i32_w]
   rfl
  refine pure_ (i:=12) (N:=some 18) (v:=?_) (a':=?_) (rl [7,1,3,1,1,5]) rfl rfl (any_of HT_.out (by kernel_rfl)) (fun _ _ _ h=> h) (Or.inl ⟨by rfl,?_⟩) ?_ ?_
  rotate_left
  ·intro w'
   go_simp
   with_reducible rfl
  rotate_left
  ·simp only[Act.put,l_a,l_z,l_s,i64_w,i32_w]
   rfl
  refine one_ (i:=7) (N:=some 13) (rl [11,1,1,5]) rfl rfl (one_of HT_.out (by kernel_rfl)) (by decide) (fun K hK=> ?_)
  refine goes_ Tryz.func52 (by kernel_rfl) rfl #[.pointer (some ⟨g,0,none⟩)] (by rfl) rfl rfl (by(try simp only[l_m,l_c,l_n]);rfl) ?_
  with_reducible refine(note_place_number.calls k g cK cL cM aK cN cO cP w0 _ ?side1 ?side2 A3.out).mono ?_
  (case side1=> exact HI0.out)
  (case side2=> exact HB.out)
  rintro e lA ⟨rfl,hi,hb,hk⟩
  refine⟨_,rfl,?_⟩
  have aP:=am (KeepBut.blk hk (g':=aG) (o:=.cells #[i6 0,i6 0,i6 0,i6 0,i6 0,i6 0,i6 0,i6 0,i6 0,.slice none 0 0,.string (⟨#[]⟩:ByteArray),i6 0] 28 (0,0)) (by exact aC.out) aJ.out (by simp))
  have aQ:=am (KeepBut.blk hk (g':=aB) (o:=.cells #[i6 0,i6 0,i6 0,i6 0,i6 0,i6 0,i6 0,i6 0,i6 0,.slice none 0 0,.string (⟨#[]⟩:ByteArray),i6 0] 28 (0,0)) (by exact aA.out) aH.out (by simp))
  have aR:=am (KeepBut.trans (HK.out) hk (.inl rfl))
  have aS:=am (hb)
  have aT:=am (hi)
  clear aC aA HK HB HI0
  have aC:=aP
  have aA:=aQ
  have HK:=aR
  have HB:=aS
  have HI0:=aT
  clear aP aQ aR aS aT
  clear hb
  clear hk
  clear hi
  refine hK.out _ _ trivial (fun hHeld=> ?_)
  clear hK K
  refine norm_ (a':=?_) ?_ ?_
  rotate_left
  ·show Act.put _ (some 13) _=_
   simp only[Act.put,l_a,l_z,l_s,i64_w,i32_w]
   rfl
  refine one_ (i:=11) (N:=some 17) (rl [13,5]) rfl rfl (one_of HT_.out (by kernel_rfl)) (by decide) (fun K hK=> ?_)
  refine goes_ Tryz.func52 (by kernel_rfl) rfl #[.pointer (some ⟨g,0,none⟩)] (by rfl) rfl rfl (by(try simp only[l_m,l_c,l_n]);rfl) ?_
  with_reducible refine(note_place_number.calls k g cN cO cP aL bW bX bY w0 _ ?side1 ?side2 A4.out).mono ?_
  (case side1=> exact HI0.out)
  (case side2=> exact HB.out)
  rintro e cY ⟨rfl,hi,hb,hk⟩
  refine⟨_,rfl,?_⟩
  have aP:=am (KeepBut.blk hk (g':=aG) (o:=.cells #[i6 0,i6 0,i6 0,i6 0,i6 0,i6 0,i6 0,i6 0,i6 0,.slice none 0 0,.string (⟨#[]⟩:ByteArray),i6 0] 28 (0,0)) (by exact aC.out) aJ.out (by simp))
  have aQ:=am (KeepBut.blk hk (g':=aB) (o:=.cells #[i6 0,i6 0,i6 0,i6 0,i6 0,i6 0,i6 0,i6 0,i6 0,.slice none 0 0,.string (⟨#[]⟩:ByteArray),i6 0] 28 (0,0)) (by exact aA.out) aH.out (by simp))
  have aR:=am (KeepBut.trans (HK.out) hk (.inl rfl))
  have aS:=am (hb)
  have aT:=am (hi)
  clear aC aA HK HB HI0
  have aC:=aP
  have aA:=aQ
  have HK:=aR
  have HB:=aS
  have HI0:=aT
  clear aP aQ aR aS aT
  clear hb
  clear hk
  clear hi
  refine hK.out _ _ trivial (fun hHeld=> ?_)
  clear hK K
  refine norm_ (a':=?_) ?_ ?_
  rotate_left
  ·show Act.put _ (some 17) _=_
   simp only[Act.put,l_a,l_z,l_s,i64_w,i32_w]
   rfl
  refine one_ (i:=13) (N:=none) (rl [14,4]) rfl rfl (one_of HT_.out (by kernel_rfl)) (by decide) (fun K hK=> ?_)
  have hs19:cY.cell? ⟨aB,0,none⟩=some (i6 0):=(blk_cell aA.out 0).trans rfl
  have hfs19:=blk_frozen aA.out 0
  have fQ:=aD.out
  have fR:=aF.out
  refine skip_ (w1:=?_) (by rfl) rfl ?_ ?_
  rotate_left
  ·go_simp
   rfl
  refine hK.out _ _ trivial (fun hHeld=> ?_)
  clear hK K
  refine pure_ (i:=14) (N:=some 19) (v:=?_) (a':=?_) (rl [15,3]) rfl rfl (any_of HT_.out (by kernel_rfl)) (fun _ _ _ h=> h) (Or.inl ⟨by rfl,?_⟩) ?_ ?_
  rotate_left
  ·intro w'
   go_simp
   with_reducible rfl
  rotate_left
  ·simp only[Act.put,l_a,l_z,l_s,i64_w,i32_w]
   rfl
  refine one_ (i:=15) (N:=none) (rl [16,2]) rfl rfl (one_of HT_.out (by kernel_rfl)) (by decide) (fun K hK=> ?_)
  have hs20:cY.cell? ⟨aB,1,none⟩=some (i6 0):=(blk_cell aA.out 1).trans rfl
  have hfs20:=blk_frozen aA.out 1
  have fS:=aD.out
  have fT:=aF.out
  refine skip_ (w1:=?_) (by rfl) rfl ?_ ?_
  rotate_left
  ·go_simp
   rfl
  refine hK.out _ _ trivial (fun hHeld=> ?_)
  clear hK K
  refine pure_ (i:=16) (N:=some 20) (v:=?_) (a':=?_) (rl [17,1]) rfl rfl (any_of HT_.out (by kernel_rfl)) (fun _ _ _ h=> h) (Or.inl ⟨by rfl,?_⟩) ?_ ?_
  rotate_left
  ·intro w'
   go_simp
   with_reducible rfl
  rotate_left
  ·simp only[Act.put,l_a,l_z,l_s,i64_w,i32_w]
   rfl
  refine one_ (i:=17) (N:=none) (rl [18]) rfl rfl (one_of HT_.out (by kernel_rfl)) (by decide) (fun K hK=> ?_)
  have hs21:cY.cell? ⟨aB,2,none⟩=some (i6 0):=(blk_cell aA.out 2).trans rfl
  have hfs21:=blk_frozen aA.out 2
  have fU:=aD.out
  have fV:=aF.out
  refine skip_ (w1:=?_) (by rfl) rfl ?_ ?_
  rotate_left
  ·go_simp
   rfl
  refine hK.out _ _ trivial (fun hHeld=> ?_)
  clear hK K
  refine done_ (done_of HT_.out (by kernel_rfl)) ?_
  try go_wp2
  have aP:Aside0 ((((cY.setCell ⟨aB,0,none⟩ (i6 aI)).setCell ⟨aB,1,none⟩ (i6 aK)).setCell ⟨aB,2,none⟩ (i6 aL)).heap[aG]?=some (.cells #[i6 0,i6 0,i6 0,i6 0,i6 0,i6 0,i6 0,i6 0,i6 0,.slice none 0 0,.string (⟨#[]⟩:ByteArray),i6 0] 28 (0,0))):=⟨by(iterate 3 refine blk_far ?_ aD.out _);exact aC.out⟩
  have aQ:Aside0 ((((cY.setCell ⟨aB,0,none⟩ (i6 aI)).setCell ⟨aB,1,none⟩ (i6 aK)).setCell ⟨aB,2,none⟩ (i6 aL)).heap[aB]?=some (.cells #[i6 aI,i6 aK,i6 aL,i6 0,i6 0,i6 0,i6 0,i6 0,i6 0,.slice none 0 0,.string (⟨#[]⟩:ByteArray),i6 0] 28 (0,0))):=⟨by exact bp (bp (bp aA.out 0) 1) 2⟩
  have aR:Aside0 (IsS68 w0 (((cY.setCell ⟨aB,0,none⟩ (i6 aI)).setCell ⟨aB,1,none⟩ (i6 aK)).setCell ⟨aB,2,none⟩ (i6 aL)) g bW bX bY):=⟨by repeat(with_reducible first|exact HI0.out|apply IsS68.far (hne:=aW.out))⟩
  have aS:Aside0 (KeepBut w (((cY.setCell ⟨aB,0,none⟩ (i6 aI)).setCell ⟨aB,1,none⟩ (i6 aK)).setCell ⟨aB,2,none⟩ (i6 aL)) g none):=⟨keep_far (keep_far (keep_far HK.out aY.out _) aY.out _) aY.out _⟩
  have aT:Aside0 (Below w0.heap.size w0 (((cY.setCell ⟨aB,0,none⟩ (i6 aI)).setCell ⟨aB,1,none⟩ (i6 aK)).setCell ⟨aB,2,none⟩ (i6 aL))):=⟨bs3 HB.out bI.out⟩
  clear aC
  clear aA
  clear HI0
  clear HK
  clear HB
  generalize (((cY.setCell ⟨aB,0,none⟩ (i6 aI)).setCell ⟨aB,1,none⟩ (i6 aK)).setCell ⟨aB,2,none⟩ (i6 aL))=k1 at aP aQ aR aS aT ⊢
  have aC:=aP
  have aA:=aQ
  have HI0:=aR
  have HK:=aS
  have HB:=aT
  clear aP aQ aR aS aT
  have aP:=am (blk_drew aC.out)
  have aQ:=am (blk_drew aA.out)
  have aR:=am (IsS68.drew HI0.out)
  have aS:=am (keep_drew HK.out)
  have aT:=am (below_drew1 HB.out)
  clear aC aA HI0 HK HB
  have aC:=aP
  have aA:=aQ
  have HI0:=aR
  have HK:=aS
  have HB:=aT
  clear aP aQ aR aS aT
  refine start_ (n:=18) (S:=fun w'=> True) (ds:=[]) (rl [0,18]) (by kernel_rfl) rfl rfl trivial (fun hHeld=> ?_);refine with_tabW note_reader_frame.tab3 note_reader_frame.bits3 (fun HT_ HW_=> ?_)
  generalize k1.drew=lB at aC aA HI0 HK HB hHeld ⊢
  refine pure_ (i:=0) (N:=some 21) (v:=?_) (a':=?_) (rl [1,17]) rfl rfl (any_of HT_.out (by kernel_rfl)) (fun _ _ _ h=> h) (Or.inl ⟨by rfl,?_⟩) ?_ ?_
  rotate_left
  ·intro w'
   go_simp
   with_reducible rfl
  rotate_left
  ·simp only[Act.put,l_a,l_z,l_s,i64_w,i32_w]
   rfl
  refine pure_ (i:=1) (N:=some 22) (v:=?_) (a':=?_) (rl [2,16]) rfl rfl (any_of HT_.out (by kernel_rfl)) (fun _ _ _ h=> h) (Or.inl ⟨by rfl,?_⟩) ?_ ?_
  rotate_left
  ·intro w'
   go_simp
   with_reducible rfl
  rotate_left
  ·simp only[Act.put,l_a,l_z,l_s,i64_w,i32_w]
   rfl
  refine pure_ (i:=2) (N:=some 23) (v:=?_) (a':=?_) (rl [3,15]) rfl rfl (any_of HT_.out (by kernel_rfl)) (fun _ _ _ h=> h) (Or.inl ⟨by rfl,?_⟩) ?_ ?_
  rotate_left
  ·intro w'
   go_simp
   with_reducible rfl
  rotate_left
  ·simp only[Act.put,l_a,l_z,l_s,i64_w,i32_w]
   rfl
  refine pure_ (i:=4) (N:=some 25) (v:=?_) (a':=?_) (rl [3,1,1,13]) rfl rfl (any_of HT_.out (by kernel_rfl)) (fun _ _ _ h=> h) (Or.inl ⟨by rfl,?_⟩) ?_ ?_
  rotate_left
  ·intro w'
   go_simp
   with_reducible rfl
  rotate_left
  ·simp only[Act.put,l_a,l_z,l_s,i64_w,i32_w]
   rfl
  refine pure_ (i:=5) (N:=some 26) (v:=?_) (a':=?_) (rl [3,1,2,12]) rfl rfl (any_of HT_.out (by kernel_rfl)) (fun _ _ _ h=> h) (Or.inl ⟨by rfl,?_⟩) ?_ ?_
  rotate_left
  ·intro w'
   go_simp
   with_reducible rfl
  rotate_left
  ·simp only[Act.put,l_a,l_z,l_s,i64_w,i32_w]
   rfl
  refine pure_ (i:=6) (N:=some 27) (v:=?_) (a':=?_) (rl [3,1,3,11]) rfl rfl (any_of HT_.out (by kernel_rfl)) (fun _ _ _ h=> h) (Or.inl ⟨by rfl,?_⟩) ?_ ?_
  rotate_left
  ·intro w'
   go_simp
   with_reducible rfl
  rotate_left
  ·simp only[Act.put,l_a,l_z,l_s,i64_w,i32_w]
   rfl
  refine pure_ (i:=8) (N:=some 29) (v:=?_) (a':=?_) (rl [3,1,3,1,1,9]) rfl rfl (any_of HT_.out (by kernel_rfl)) (fun _ _ _ h=> h) (Or.inl ⟨by rfl,?_⟩) ?_ ?_
  rotate_left
  ·intro w'
   go_simp
   with_reducible rfl
  rotate_left
  ·simp only[Act.put,l_a,l_z,l_s,i64_w,i32_w]
   rfl
  refine pure_ (i:=9) (N:=some 30) (v:=?_) (a':=?_) (rl [3,1,3,1,2,8]) rfl rfl (any_of HT_.out (by kernel_rfl)) (fun _ _ _ h=> h) (Or.inl ⟨by rfl,?_⟩) ?_ ?_
  rotate_left
  ·intro w'
   go_simp
   with_reducible rfl
  rotate_left
  ·simp only[Act.put,l_a,l_z,l_s,i64_w,i32_w]
   rfl
  refine pure_ (i:=10) (N:=some 31) (v:=?_) (a':=?_) (rl [3,1,3,1,3,7]) rfl rfl (any_of HT_.out (by kernel_rfl)) (fun _ _ _ h=> h) (Or.inl ⟨by rfl,?_⟩) ?_ ?_
  rotate_left
  ·intro w'
   go_simp
   with_reducible rfl
  rotate_left
  ·simp only[Act.put,l_a,l_z,l_s,i64_w,i32_w]
   rfl
  refine one_ (i:=3) (N:=some 24) (rl [7,1,3,7]) rfl rfl (one_of HT_.out (by kernel_rfl)) (by decide) (fun K hK=> ?_)
  refine goes_ Tryz.func52 (by kernel_rfl) rfl #[.pointer (some ⟨g,0,none⟩)] (by rfl) rfl rfl (by(try simp only[l_m,l_c,l_n]);rfl) ?_
  with_reducible refine(note_place_number.calls k g bW bX bY aN cQ cR cS w0 _ ?side1 ?side2 A5.out).mono ?_
  (case side1=> exact HI0.out)
  (case side2=> exact HB.out)
  rintro e lC ⟨rfl,hi,hb,hk⟩
  refine⟨_,rfl,?_⟩
  have aP:=am (KeepBut.blk hk (g':=aG) (o:=.cells #[i6 0,i6 0,i6 0,i6 0,i6 0,i6 0,i6 0,i6 0,i6 0,.slice none 0 0,.string (⟨#[]⟩:ByteArray),i6 0] 28 (0,0)) (by exact aC.out) aJ.out (by simp))
  have aQ:=am (KeepBut.blk hk (g':=aB) (o:=.cells #[i6 aI,i6 aK,i6 aL,i6 0,i6 0,i6 0,i6 0,i6 0,i6 0,.slice none 0 0,.string (⟨#[]⟩:ByteArray),i6 0] 28 (0,0)) (by exact aA.out) aH.out (by simp))
  have aR:=am (KeepBut.trans (HK.out) hk (.inl rfl))
  have aS:=am (hb)
  have aT:=am (hi)
  clear aC aA HK HB HI0
  have aC:=aP
  have aA:=aQ
  have HK:=aR
  have HB:=aS
  have HI0:=aT
  clear aP aQ aR aS aT
  clear hb
  clear hk
  clear hi
  refine hK.out _ _ trivial (fun hHeld=> ?_)
  clear hK K
  refine norm_ (a':=?_) ?_ ?_
  rotate_left
  ·show Act.put _ (some 24) _=_
   simp only[Act.put,l_a,l_z,l_s,i64_w,i32_w]
   rfl
  refine pure_ (i:=12) (N:=some 33) (v:=?_) (a':=?_) (rl [7,1,3,1,1,5]) rfl rfl (any_of HT_.out (by kernel_rfl)) (fun _ _ _ h=> h) (Or.inl ⟨by rfl,?_⟩) ?_ ?_
  rotate_left
  ·intro w'
   go_simp
   with_reducible rfl
  rotate_left
  ·simp only[Act.put,l_a,l_z,l_s,i64_w,i32_w]
   rfl
  refine one_ (i:=7) (N:=some 28) (rl [11,1,1,5]) rfl rfl (one_of HT_.out (by kernel_rfl)) (by decide) (fun K hK=> ?_)
  refine goes_ Tryz.func52 (by kernel_rfl) rfl #[.pointer (some ⟨g,0,none⟩)] (by rfl) rfl rfl (by(try simp only[l_m,l_c,l_n]);rfl) ?_
  with_reducible refine(note_place_number.calls k g cQ cR cS aV cT cU cV w0 _ ?side1 ?side2 A6.out).mono ?_
  (case side1=> exact HI0.out)
  (case side2=> exact HB.out)
  rintro e lD ⟨rfl,hi,hb,hk⟩
  refine⟨_,rfl,?_⟩
  have aP:=am (KeepBut.blk hk (g':=aG) (o:=.cells #[i6 0,i6 0,i6 0,i6 0,i6 0,i6 0,i6 0,i6 0,i6 0,.slice none 0 0,.string (⟨#[]⟩:ByteArray),i6 0] 28 (0,0)) (by exact aC.out) aJ.out (by simp))
  have aQ:=am (KeepBut.blk hk (g':=aB) (o:=.cells #[i6 aI,i6 aK,i6 aL,i6 0,i6 0,i6 0,i6 0,i6 0,i6 0,.slice none 0 0,.string (⟨#[]⟩:ByteArray),i6 0] 28 (0,0)) (by exact aA.out) aH.out (by simp))
  have aR:=am (KeepBut.trans (HK.out) hk (.inl rfl))
  have aS:=am (hb)
  have aT:=am (hi)
  clear aC aA HK HB HI0
  have aC:=aP
  have aA:=aQ
  have HK:=aR
  have HB:=aS
  have HI0:=aT
  clear aP aQ aR aS aT
  clear hb
  clear hk
  clear hi
  refine hK.out _ _ trivial (fun hHeld=> ?_)
  clear hK K
  refine norm_ (a':=?_) ?_ ?_
  rotate_left
  ·show Act.put _ (some 28) _=_
   simp only[Act.put,l_a,l_z,l_s,i64_w,i32_w]
   rfl
  refine one_ (i:=11) (N:=some 32) (rl [13,5]) rfl rfl (one_of HT_.out (by kernel_rfl)) (by decide) (fun K hK=> ?_)
  refine goes_ Tryz.func52 (by kernel_rfl) rfl #[.pointer (some ⟨g,0,none⟩)] (by rfl) rfl rfl (by(try simp only[l_m,l_c,l_n]);rfl) ?_
  with_reducible refine(note_place_number.calls k g cT cU cV aX eN eO eP w0 _ ?side1 ?side2 A7.out).mono ?_
  (case side1=> exact HI0.out)
  (case side2=> exact HB.out)
  rintro e jV ⟨rfl,hi,hb,hk⟩
  refine⟨_,rfl,?_⟩
  have aP:=am (KeepBut.blk hk (g':=aG) (o:=.cells #[i6 0,i6 0,i6 0,i6 0,i6 0,i6 0,i6 0,i6 0,i6 0,.slice none 0 0,.string (⟨#[]⟩:ByteArray),i6 0] 28 (0,0)) (by exact aC.out) aJ.out (by simp))
  have aQ:=am (KeepBut.blk hk (g':=aB) (o:=.cells #[i6 aI,i6 aK,i6 aL,i6 0,i6 0,i6 0,i6 0,i6 0,i6 0,.slice none 0 0,.string (⟨#[]⟩:ByteArray),i6 0] 28 (0,0)) (by exact aA.out) aH.out (by simp))
  have aR:=am (KeepBut.trans (HK.out) hk (.inl rfl))
  have aS:=am (hb)
  have aT:=am (hi)
  clear aC aA HK HB HI0
  have aC:=aP
  have aA:=aQ
  have HK:=aR
  have HB:=aS
  have HI0:=aT
  clear aP aQ aR aS aT
  clear hb
  clear hk
  clear hi
  refine hK.out _ _ trivial (fun hHeld=> ?_)
  clear hK K
  refine norm_ (a':=?_) ?_ ?_
  rotate_left
  ·show Act.put _ (some 32) _=_
   simp only[Act.put,l_a,l_z,l_s,i64_w,i32_w]
   rfl
  refine one_ (i:=13) (N:=none) (rl [14,4]) rfl rfl (one_of HT_.out (by kernel_rfl)) (by decide) (fun K hK=> ?_)
  have hs27:jV.cell? ⟨aB,3,none⟩=some (i6 0):=(blk_cell aA.out 3).trans rfl
  have hfs27:=blk_frozen aA.out 3
  have fW:=aD.out
  have fX:=aF.out
  refine skip_ (w1:=?_) (by rfl) rfl ?_ ?_
  rotate_left
  ·go_simp
   rfl
  refine hK.out _ _ trivial (fun hHeld=> ?_)
  clear hK K
  refine pure_ (i:=14) (N:=some 34) (v:=?_) (a':=?_) (rl [15,3]) rfl rfl (any_of HT_.out (by kernel_rfl)) (fun _ _ _ h=> h) (Or.inl ⟨by rfl,?_⟩) ?_ ?_
  rotate_left
  ·intro w'
   go_simp
   with_reducible rfl
  rotate_left
  ·simp only[Act.put,l_a,l_z,l_s,i64_w,i32_w]
   rfl
  refine one_ (i:=15) (N:=none) (rl [16,2]) rfl rfl (one_of HT_.out (by kernel_rfl)) (by decide) (fun K hK=> ?_)
  have hs28:jV.cell? ⟨aB,4,none⟩=some (i6 0):=(blk_cell aA.out 4).trans rfl
  have hfs28:=blk_frozen aA.out 4
  have fY:=aD.out
  have fZ:=aF.out
  refine skip_ (w1:=?_) (by rfl) rfl ?_ ?_
  rotate_left
  ·go_simp
   rfl
  refine hK.out _ _ trivial (fun hHeld=> ?_)
  clear hK K
  refine pure_ (i:=16) (N:=some 35) (v:=?_) (a':=?_) (rl [17,1]) rfl rfl (any_of HT_.out (by kernel_rfl)) (fun _ _ _ h=> h) (Or.inl ⟨by rfl,?_⟩) ?_ ?_
  rotate_left
  ·intro w'
   go_simp
   with_reducible rfl
  rotate_left
  ·simp only[Act.put,l_a,l_z,l_s,i64_w,i32_w]
   rfl
  refine one_ (i:=17) (N:=none) (rl [18]) rfl rfl (one_of HT_.out (by kernel_rfl)) (by decide) (fun K hK=> ?_)
  have hs29:jV.cell? ⟨aB,5,none⟩=some (i6 0):=(blk_cell aA.out 5).trans rfl
  have hfs29:=blk_frozen aA.out 5
  have f0:=aD.out
  have f1:=aF.out
  refine skip_ (w1:=?_) (by rfl) rfl ?_ ?_
  rotate_left
  ·go_simp
   rfl
  refine hK.out _ _ trivial (fun hHeld=> ?_)
  clear hK K
  refine done_ (done_of HT_.out (by kernel_rfl)) ?_
  have j8:=aF.out
  have j9:=aD.out
  have kA:=aH.out
  have kB:=aW.out
  obtain⟨cZ,c0,c1,dA,dB,dC,dD,dE,dF,dG,b1,b2⟩:=bc12 aA.out
  obtain⟨dH,dI,dJ,dK,dL,dM,dN,dO,dP,dQ,b3,b4⟩:=bf12 aA.out
  go_upto_region 7 with(first|((with_reducible refine gate_callee (f:=52) rfl ?_);refine goesL_ (some 42) rfl rfl Tryz.func52 (by kernel_rfl) rfl #[.pointer (some ⟨g,0,none⟩)] rfl (by(try simp only[l_m,l_c,l_n]);rfl) ?_;(with_reducible refine(note_place_number.calls k g eN eO eP a7 eX eY eZ w0 _ ?side1 ?side2 A9.out).mono ?_);(case side1=> repeat(with_reducible first|exact HI0.out|apply IsS68.far (hne:=aW.out)));(case side2=> exact bs3 HB.out bI.out);rintro e lE ⟨rfl,hi,hb,hk⟩;refine⟨_,rfl,?_⟩;replace aC:=am (KeepBut.blk hk (g':=aG) (o:=.cells #[i6 0,i6 0,i6 0,i6 0,i6 0,i6 0,i6 0,i6 0,i6 0,.slice none 0 0,.string (⟨#[]⟩:ByteArray),i6 0] 28 (0,0)) (by(iterate 3 refine blk_far ?_ aD.out _);exact aC.out) aJ.out (by simp));replace aA:=am (KeepBut.blk hk (g':=aB) (o:=.cells #[i6 aI,i6 aK,i6 aL,i6 aN,i6 aV,i6 aX,i6 0,i6 0,i6 0,.slice none 0 0,.string (⟨#[]⟩:ByteArray),i6 0] 28 (0,0)) (bp (bp (bp aA.out 3) 4) 5) aH.out (by simp));replace HK:=am (KeepBut.trans (keep_far (keep_far (keep_far HK.out aY.out _) aY.out _) aY.out _) hk (.inl rfl));replace HB:=am (hb);replace HI0:=am (hi);clear hb hk hi;obtain⟨dR,dS,dT,dU,dV,dW,dX,dY,dZ,d0,b5,b6⟩:=bc12 aA.out;obtain⟨d1,d2,d3,d4,d5,d6,d7,d8,d9,eA,b7,b8⟩:=bf12 aA.out)|((with_reducible refine gate_callee (f:=54) rfl ?_);refine goesL_ (some 49) rfl rfl Tryz.func54 (by kernel_rfl) rfl #[.pointer (some ⟨g,0,none⟩)] rfl (by(try simp only[l_m,l_c,l_n]);rfl) ?_;(with_reducible refine(note_place_text.calls k g eX eY eZ eQ bP bQ cW w0 _ ?side1 ?side2 kY.out).mono ?_);(case side1=> repeat(with_reducible first|exact HI0.out|apply IsS68.far (hne:=aW.out)));(case side2=> exact below_set HB.out bI.out);rintro e lF ⟨rfl,hi,hb,hk⟩;refine⟨_,rfl,?_⟩;replace aC:=am (KeepBut.blk hk (g':=aG) (o:=.cells #[i6 0,i6 0,i6 0,i6 0,i6 0,i6 0,i6 0,i6 0,i6 0,.slice none 0 0,.string (⟨#[]⟩:ByteArray),i6 0] 28 (0,0)) (by refine blk_far ?_ aD.out _;exact aC.out) aJ.out (by simp));replace aA:=am (KeepBut.blk hk (g':=aB) (o:=.cells #[i6 aI,i6 aK,i6 aL,i6 aN,i6 aV,i6 aX,i6 a7,i6 0,i6 0,.slice none 0 0,.string (⟨#[]⟩:ByteArray),i6 0] 28 (0,0)) (bp aA.out 6) aH.out (by simp));replace HK:=am (KeepBut.trans (keep_far HK.out aY.out _) hk (.inl rfl));replace HB:=am (hb);replace HI0:=am (hi);clear hb hk hi)|((with_reducible refine gate_callee (f:=53) rfl ?_);refine goesL_ (some 50) rfl rfl Tryz.func53 (by kernel_rfl) rfl #[.string eQ] rfl (by(try simp only[l_m,l_c,l_n]);rfl) ?_;(with_reducible refine(ident_Parse.calls k eQ aZ a6 a3 cX _ ?side1 kZ.out).mono ?_);(case side1=> exact WH.below HWH_.out (HB.out));rintro e lG ⟨v242,rfl,ho0,hb⟩;refine⟨_,rfl,?_⟩;have bT:=am (Kd.R_lower ho0 (keep_size (w:=w) (g:=g) (row:=none) (HK.out)));replace HI0:=am (IsS68.below (HI0.out) hb);replace aC:=am (blk_below aC.out hb);replace aA:=am (blk_below aA.out hb);replace HK:=am (KeepBut.trans (HK.out) (KeepBut.of_below hb g none) (.inl rfl));replace HB:=am (below_step (HB.out) hb);clear hb ho0)|((with_reducible refine gate_dst (N:=4) rfl ?_);refine box_event ?hg (N:=4) ?hd (cs:=#[i6 0,i6 0,.slice none 0 0]) (t:=24) ?hr ?_;(case hd=> rfl);(case hg=> rfl);(case hr=> (go_simp;done));intro aO hg lH hbox hb;replace bT:=am (Kd.R_below (by exact bT.out) hb);replace HB:=am (below_step (HB.out) hb);have aU:=am (hbox);have eJ:=am ((by rw[hg];exact(keep_size (w:=w) (g:=g) (row:=none) (HK.out)):w.heap.size≤aO));have eK:=am ((Nat.le_trans HW0.out (by rw[hg];exact(keep_size (w:=w) (g:=g) (row:=none) (HK.out)):w.heap.size≤aO):w0.heap.size≤aO));replace HK:=am (KeepBut.trans (HK.out) (KeepBut.of_below hb g none) (.inl rfl));have a5:=am ((by rw[hg];exact Nat.ne_of_lt (blk_lt aC.out):aG≠aO));have bO:=am ((by rw[hg];exact Nat.ne_of_gt (blk_lt aC.out):aO≠aG));replace aC:=am (blk_below aC.out hb);have aM:=am ((by rw[hg];exact Nat.ne_of_lt (blk_lt aA.out):aB≠aO));have aE:=am ((by rw[hg];exact Nat.ne_of_gt (blk_lt aA.out):aO≠aB));replace aA:=am (blk_below aA.out hb);have bR:=am ((by rw[hg];exact Nat.ne_of_lt (IsS68.lt (show IsS68 w0 _ g bP bQ cW from HI0.out)):g≠aO));have bD:=am ((by rw[hg];exact Nat.ne_of_gt (IsS68.lt (show IsS68 w0 _ g bP bQ cW from HI0.out)):aO≠g));replace HI0:=am (IsS68.below (HI0.out) hb);clear hb hbox hg;have kC:=bO.out;have kD:=a5.out;have kE:=aE.out;have kF:=aM.out;have kG:=bD.out;have kH:=bR.out;obtain⟨eB,eC,eD⟩:=bc3 aU.out;obtain⟨eE,eF,eG⟩:=bf3 aU.out;obtain⟨bE,bF,eo42⟩:=Kd.R_slice bT.out;subst eo42))
  (try simp only[Act.put,l_a,l_z,l_s])
  go_cut [] (fun wc=> ∃ (kq:Nat) (a4:Bool),Aside0 (note_reader_frame.j0 kq bP bQ a4 aI aK aL aN aV aX a7 0 0 (⟨#[]⟩:ByteArray) 0 aZ a6 a3=some (r1,r2,r3,r4,r5,r6,r7,r8,r9,r10,r11,r12,r13,r14,r15))∧Aside0 (kq≤k)∧Aside0 (Kd.R k46 46 wc w.heap.size (fun _=> True) (.slice bE a3.length bF) a3)∧Aside0 (wc.heap[aG]?=some (.cells #[i6 0,i6 0,i6 0,i6 0,i6 0,i6 0,i6 0,i6 0,i6 0,(.slice none 0 0),.string (⟨#[]⟩:ByteArray),i6 0] 28 (0,0)))∧Aside0 (wc.heap[aB]?=some (.cells #[i6 aI,i6 aK,i6 aL,i6 aN,i6 aV,i6 aX,i6 a7,i6 0,i6 0,(.slice none 0 0),.string (⟨#[]⟩:ByteArray),i6 0] 28 (0,0)))∧Aside0 (wc.heap[aO]?=some (.cells #[i6 aZ,i6 a6,(.slice bE a3.length bF)] 24 (0,0)))∧Aside0 (IsS68 w0 wc g bP bQ a4)∧Aside0 (KeepBut w wc g none)∧Aside0 (Below w0.heap.size w0 wc))
  case first=>
   have H:=HC12.out
   clear HC12
   by_cases f2:cW=true
   ·subst f2
    have H1:(note_reader_frame.j0 k bP bQ true aI aK aL aN aV aX a7 0 0 (⟨#[]⟩:ByteArray) 0 aZ a6 a3)=some (r1,r2,r3,r4,r5,r6,r7,r8,r9,r10,r11,r12,r13,r14,r15):=by rw[if_pos rfl]at H;exact H
    clear H
    have H:=H1
    clear H1
    have H':=am H
    clear H
    obtain⟨HGz44,hgz44⟩:=HI0.out
    have f3:=cellS68_0 HGz44
    have f4:=cellS68_1 HGz44
    have f5:=cellS68_2 HGz44
    have f6:=blk_frozen HGz44 0
    have f7:=blk_frozen HGz44 1
    have f8:=blk_frozen HGz44 2
    clear HGz44 hgz44
    go_wp2
    go_meet
    case rel=> exact⟨_,(true),H',⟨by omega⟩,⟨by exact Kd.R_mono (Kd.R_far (p:=⟨g,2,none⟩) (Kd.R_far (p:=⟨aO,2,none⟩) (Kd.R_far (p:=⟨aO,1,none⟩) (Kd.R_far (p:=⟨aO,0,none⟩) (IsS68.apart HI0.out (Kd.R_types bT.out aU.out (by decide)) (by decide)) (fun _ hk=> hk.1.2) (i6 aZ)) (fun _ hk=> hk.1.2) (i6 a6)) (fun _ hk=> hk.1.2) (.slice bE a3.length bF)) (fun _ hk=> hk.2) (.bool true)) (fun _ hk=> trivial)⟩,⟨by refine blk_far ?_ aJ.out _;(iterate 3 refine blk_far ?_ a5.out _);exact aC.out⟩,⟨by refine blk_far ?_ aH.out _;(iterate 3 refine blk_far ?_ aM.out _);exact aA.out⟩,⟨by refine blk_far ?_ bD.out _;exact bp (bp (bp aU.out 0) 1) 2⟩,⟨by repeat(with_reducible first|exact HI0.out|apply IsS68.set_2|apply IsS68.far (hne:=bR.out))⟩,⟨by repeat(with_reducible first|exact HK.out|apply KeepBut.set_|refine keep_far ?_ eJ.out _)⟩,⟨by repeat(with_reducible first|exact HB.out|refine below_set ?_ (IsS68.ge HI0.out)|refine below_set ?_ eK.out)⟩⟩
   ·replace f2:=Bool.eq_false_iff.mpr f2
    subst f2
    have H1:(note_reader_frame.j0 k bP bQ (cX !=0) aI aK aL aN aV aX a7 0 0 (⟨#[]⟩:ByteArray) 0 aZ a6 a3)=some (r1,r2,r3,r4,r5,r6,r7,r8,r9,r10,r11,r12,r13,r14,r15):=by rw[if_neg (show ¬ (false=true)by decide)]at H;exact H
    clear H
    have H:=H1
    clear H1
    have H':=am H
    clear H
    obtain⟨HGz45,hgz45⟩:=HI0.out
    have f9:=cellS68_0 HGz45
    have gA:=cellS68_1 HGz45
    have gB:=cellS68_2 HGz45
    have gC:=blk_frozen HGz45 0
    have gD:=blk_frozen HGz45 1
    have gE:=blk_frozen HGz45 2
    clear HGz45 hgz45
    go_wp2
    go_meet
    case rel=> exact⟨_,((cX !=0)),H',⟨by omega⟩,⟨by exact Kd.R_mono (Kd.R_far (p:=⟨g,2,none⟩) (Kd.R_far (p:=⟨aO,2,none⟩) (Kd.R_far (p:=⟨aO,1,none⟩) (Kd.R_far (p:=⟨aO,0,none⟩) (IsS68.apart HI0.out (Kd.R_types bT.out aU.out (by decide)) (by decide)) (fun _ hk=> hk.1.2) (i6 aZ)) (fun _ hk=> hk.1.2) (i6 a6)) (fun _ hk=> hk.1.2) (.slice bE a3.length bF)) (fun _ hk=> hk.2) (.bool (cX !=0))) (fun _ hk=> trivial)⟩,⟨by refine blk_far ?_ aJ.out _;(iterate 3 refine blk_far ?_ a5.out _);exact aC.out⟩,⟨by refine blk_far ?_ aH.out _;(iterate 3 refine blk_far ?_ aM.out _);exact aA.out⟩,⟨by refine blk_far ?_ bD.out _;exact bp (bp (bp aU.out 0) 1) 2⟩,⟨by repeat(with_reducible first|exact HI0.out|apply IsS68.set_2|apply IsS68.far (hne:=bR.out))⟩,⟨by repeat(with_reducible first|exact HK.out|apply KeepBut.set_|refine keep_far ?_ eJ.out _)⟩,⟨by repeat(with_reducible first|exact HB.out|refine below_set ?_ (IsS68.ge HI0.out)|refine below_set ?_ eK.out)⟩⟩
  case rest=>
   clear HC12 cZ c0 b1 b2 c1 dA dB dC dD dE dF dG dR dS b5 b6 dT dU dV dW dX dY dZ d0 eB eC eD dH dI b3 b4 dJ dK dL dM dN dO dP dQ d1 d2 b7 b8 d3 d4 d5 d6 d7 d8 d9 eA eE eF eG
   obtain⟨kq,a4,HA,k2,HO_246002,aC,aA,aU,HI0,HK,HB⟩:=hcut
   cases kq with
   |zero=> exact absurd HA.out (by simp[note_reader_frame.j0])
   |succ e2=>
    have H:=HA.out
    clear HA
    simp only[note_reader_frame.j0]at H
    obtain⟨⟨b9,eR,eS,eT⟩,e3,H⟩:=Option.bind_eq_some_iff.mp H
    try dsimp only at H
    have k3:=am e3
    clear e3
    obtain⟨⟨eH,jW,jX,jY⟩,e4,H⟩:=Option.bind_eq_some_iff.mp H
    try dsimp only at H
    have k4:=am e4
    clear e4
    simp only[Option.some.injEq,Prod.mk.injEq]at H
    obtain⟨rfl,rfl,rfl,rfl,rfl,rfl,rfl,rfl,rfl,rfl,rfl,rfl,rfl,rfl,rfl⟩:=H
    try go_wp2
    have aP:=am (Kd.R_drew HO_246002.out)
    have aQ:=am (blk_drew aC.out)
    have aR:=am (blk_drew aA.out)
    have aS:=am (blk_drew aU.out)
    have aT:=am (IsS68.drew HI0.out)
    have eL:=am (keep_drew HK.out)
    have eM:=am (below_drew1 HB.out)
    clear HO_246002 aC aA aU HI0 HK HB
    have HO_246002:=aP
    have aC:=aQ
    have aA:=aR
    have aU:=aS
    have HI0:=aT
    have HK:=eL
    have HB:=eM
    clear aP aQ aR aS aT eL eM
    refine start_ (n:=18) (S:=fun w'=> w'.cell? ⟨aO,0,none⟩=some (i6 aZ)∧w'.cell? ⟨aO,1,none⟩=some (i6 a6)∧w'.cell? ⟨aO,2,none⟩=some (.slice bE a3.length bF)) (ds:=[]) (rl [0,18]) (by kernel_rfl) rfl rfl (bc3 aU.out) (fun hHeld=> ?_);refine with_tabW note_reader_frame.tab8 note_reader_frame.bits8 (fun HT_ HW_=> ?_)
    generalize wc.drew=lI at HO_246002 aC aA aU HI0 HK HB hHeld ⊢
    refine pure_ (i:=1) (N:=some 67) (v:=?_) (a':=?_) (rl [0,1,1,16]) rfl rfl (any_of HT_.out (by kernel_rfl)) (fun _ _ _ h=> h) (Or.inl ⟨by rfl,?_⟩) ?_ ?_
    rotate_left
    ·intro w'
     go_simp
     with_reducible rfl
    rotate_left
    ·simp only[Act.put,l_a,l_z,l_s,i64_w,i32_w]
     rfl
    refine pure_ (i:=2) (N:=some 68) (v:=?_) (a':=?_) (rl [0,1,2,15]) rfl rfl (any_of HT_.out (by kernel_rfl)) (fun _ _ _ h=> h) (Or.inl ⟨by rfl,?_⟩) ?_ ?_
    rotate_left
    ·intro w'
     go_simp
     with_reducible rfl
    rotate_left
    ·simp only[Act.put,l_a,l_z,l_s,i64_w,i32_w]
     rfl
    refine pure_ (i:=3) (N:=some 69) (v:=?_) (a':=?_) (rl [0,1,3,14]) rfl rfl (any_of HT_.out (by kernel_rfl)) (fun _ _ _ h=> h) (Or.inl ⟨by rfl,?_⟩) ?_ ?_
    rotate_left
    ·intro w'
     go_simp
     with_reducible rfl
    rotate_left
    ·simp only[Act.put,l_a,l_z,l_s,i64_w,i32_w]
     rfl
    refine pure_ (i:=5) (N:=some 71) (v:=?_) (a':=?_) (rl [0,1,3,1,1,12]) rfl rfl (any_of HT_.out (by kernel_rfl)) (fun _ _ _ h=> h) (Or.inl ⟨by rfl,?_⟩) ?_ ?_
    rotate_left
    ·intro w'
     go_simp
     with_reducible rfl
    rotate_left
    ·simp only[Act.put,l_a,l_z,l_s,i64_w,i32_w]
     rfl
    refine pure_ (i:=6) (N:=some 72) (v:=?_) (a':=?_) (rl [0,1,3,1,2,11]) rfl rfl (any_of HT_.out (by kernel_rfl)) (fun _ _ _ h=> h) (Or.inl ⟨by rfl,?_⟩) ?_ ?_
    rotate_left
    ·intro w'
     go_simp
     with_reducible rfl
    rotate_left
    ·simp only[Act.put,l_a,l_z,l_s,i64_w,i32_w]
     rfl
    refine pure_ (i:=7) (N:=some 73) (v:=?_) (a':=?_) (rl [0,1,3,1,3,10]) rfl rfl (any_of HT_.out (by kernel_rfl)) (fun _ _ _ h=> h) (Or.inl ⟨by rfl,?_⟩) ?_ ?_
    rotate_left
    ·intro w'
     go_simp
     with_reducible rfl
    rotate_left
    ·simp only[Act.put,l_a,l_z,l_s,i64_w,i32_w]
     rfl
    refine take_ (i:=0) (N:=some 66) (v:=?_) (a':=?_) (rl [4,1,3,10]) rfl rfl (take_ofW HT_.out HW_.out (by kernel_rfl)) (fun _ _ _ h=> h) (Or.inl ⟨by rfl,?_⟩) hHeld ?_ ?_
    rotate_left
    ·rintro w' ⟨s0,s1,s2⟩
     go_simp
     with_reducible rfl
    rotate_left
    ·simp only[Act.put,l_a,l_z,l_s,i64_w,i32_w]
     rfl
    refine pure_ (i:=9) (N:=some 75) (v:=?_) (a':=?_) (rl [4,1,3,1,1,8]) rfl rfl (any_of HT_.out (by kernel_rfl)) (fun _ _ _ h=> h) (Or.inl ⟨by rfl,?_⟩) ?_ ?_
    rotate_left
    ·intro w'
     go_simp
     with_reducible rfl
    rotate_left
    ·simp only[Act.put,l_a,l_z,l_s,i64_w,i32_w]
     rfl
    refine pure_ (i:=10) (N:=some 76) (v:=?_) (a':=?_) (rl [4,1,3,1,2,7]) rfl rfl (any_of HT_.out (by kernel_rfl)) (fun _ _ _ h=> h) (Or.inl ⟨by rfl,?_⟩) ?_ ?_
    rotate_left
    ·intro w'
     go_simp
     with_reducible rfl
    rotate_left
    ·simp only[Act.put,l_a,l_z,l_s,i64_w,i32_w]
     rfl
    refine one_ (i:=4) (N:=some 70) (rl [8,1,2,7]) rfl rfl (one_of HT_.out (by kernel_rfl)) (by decide) (fun K hK=> ?_)
    refine goes_ Tryz.func54 (by kernel_rfl) rfl #[.pointer (some ⟨g,0,none⟩)] (by rfl) rfl rfl (by(try simp only[l_m,l_c,l_n]);rfl) ?_
    with_reducible refine(note_place_text.calls e2 g bP bQ a4 b9 eR eS eT w0 _ ?side1 ?side2 k3.out).mono ?_
    (case side1=> exact HI0.out)
    (case side2=> exact HB.out)
    rintro e lJ ⟨rfl,hi,hb,hk⟩
    refine⟨_,rfl,?_⟩
    have aP:=am (Kd.R_mono (Kd.R_keep (IsS68.apart (show IsS68 w0 _ g bP bQ a4 from HI0.out) (by exact HO_246002.out) (by decide)) hk (fun _ h=> h.2)) (fun _ h=> h.1))
    have aQ:=am (KeepBut.blk hk (g':=aG) (o:=.cells #[i6 0,i6 0,i6 0,i6 0,i6 0,i6 0,i6 0,i6 0,i6 0,.slice none 0 0,.string (⟨#[]⟩:ByteArray),i6 0] 28 (0,0)) (by exact aC.out) aJ.out (by simp))
    have aR:=am (KeepBut.blk hk (g':=aB) (o:=.cells #[i6 aI,i6 aK,i6 aL,i6 aN,i6 aV,i6 aX,i6 a7,i6 0,i6 0,.slice none 0 0,.string (⟨#[]⟩:ByteArray),i6 0] 28 (0,0)) (by exact aA.out) aH.out (by simp))
    have aS:=am (KeepBut.blk hk (g':=aO) (o:=.cells #[i6 aZ,i6 a6,.slice bE a3.length bF] 24 (0,0)) (by exact aU.out) bD.out (by simp))
    have aT:=am (KeepBut.trans (HK.out) hk (.inl rfl))
    have eL:=am (hb)
    have eM:=am (hi)
    clear HO_246002 aC aA aU HK HB HI0
    have HO_246002:=aP
    have aC:=aQ
    have aA:=aR
    have aU:=aS
    have HK:=aT
    have HB:=eL
    have HI0:=eM
    clear aP aQ aR aS aT eL eM
    clear hb
    clear hk
    clear hi
    refine hK.out _ _ (bc3 aU.out) (fun hHeld=> ?_)
    clear hK K
    refine norm_ (a':=?_) ?_ ?_
    rotate_left
    ·show Act.put _ (some 70) _=_
     simp only[Act.put,l_a,l_z,l_s,i64_w,i32_w]
     rfl
    refine one_ (i:=8) (N:=some 74) (rl [11,7]) rfl rfl (one_of HT_.out (by kernel_rfl)) (by decide) (fun K hK=> ?_)
    refine goes_ Tryz.func52 (by kernel_rfl) rfl #[.pointer (some ⟨g,0,none⟩)] (by rfl) rfl rfl (by(try simp only[l_m,l_c,l_n]);rfl) ?_
    with_reducible refine(note_place_number.calls e2 g eR eS eT eH jW jX jY w0 _ ?side1 ?side2 k4.out).mono ?_
    (case side1=> exact HI0.out)
    (case side2=> exact HB.out)
    rintro e e5 ⟨rfl,hi,hb,hk⟩
    refine⟨_,rfl,?_⟩
    have aP:=am (Kd.R_mono (Kd.R_keep (IsS68.apart (show IsS68 w0 _ g eR eS eT from HI0.out) (by exact HO_246002.out) (by decide)) hk (fun _ h=> h.2)) (fun _ h=> h.1))
    have aQ:=am (KeepBut.blk hk (g':=aG) (o:=.cells #[i6 0,i6 0,i6 0,i6 0,i6 0,i6 0,i6 0,i6 0,i6 0,.slice none 0 0,.string (⟨#[]⟩:ByteArray),i6 0] 28 (0,0)) (by exact aC.out) aJ.out (by simp))
    have aR:=am (KeepBut.blk hk (g':=aB) (o:=.cells #[i6 aI,i6 aK,i6 aL,i6 aN,i6 aV,i6 aX,i6 a7,i6 0,i6 0,.slice none 0 0,.string (⟨#[]⟩:ByteArray),i6 0] 28 (0,0)) (by exact aA.out) aH.out (by simp))
    have aS:=am (KeepBut.blk hk (g':=aO) (o:=.cells #[i6 aZ,i6 a6,.slice bE a3.length bF] 24 (0,0)) (by exact aU.out) bD.out (by simp))
    have aT:=am (KeepBut.trans (HK.out) hk (.inl rfl))
    have eL:=am (hb)
    have eM:=am (hi)
    clear HO_246002 aC aA aU HK HB HI0
    have HO_246002:=aP
    have aC:=aQ
    have aA:=aR
    have aU:=aS
    have HK:=aT
    have HB:=eL
    have HI0:=eM
    clear aP aQ aR aS aT eL eM
    clear hb
    clear hk
    clear hi
    refine hK.out _ _ (bc3 aU.out) (fun hHeld=> ?_)
    clear hK K
    refine norm_ (a':=?_) ?_ ?_
    rotate_left
    ·show Act.put _ (some 74) _=_
     simp only[Act.put,l_a,l_z,l_s,i64_w,i32_w]
     rfl
    refine one_ (i:=11) (N:=none) (rl [12,6]) rfl rfl (one_of HT_.out (by kernel_rfl)) (by decide) (fun K hK=> ?_)
    have hs51:e5.cell? ⟨aB,7,none⟩=some (i6 0):=(blk_cell aA.out 7).trans rfl
    have hfs51:=blk_frozen aA.out 7
    have gF:=aD.out
    have gG:=aE.out
    have gH:=aF.out
    have gI:=aM.out
    have hs52:e5.cell? ⟨aB,8,none⟩=some (i6 0):=(blk_cell aA.out 8).trans rfl
    have hfs52:=blk_frozen aA.out 8
    have gJ:=aD.out
    have gK:=aE.out
    have gL:=aF.out
    have gM:=aM.out
    have hs53:e5.cell? ⟨aB,9,none⟩=some (.slice none 0 0):=(blk_cell aA.out 9).trans rfl
    have hfs53:=blk_frozen aA.out 9
    have gN:=aD.out
    have gO:=aE.out
    have gP:=aF.out
    have gQ:=aM.out
    refine skip_ (w1:=?_) (by rfl) rfl ?_ ?_
    rotate_left
    ·go_simp
     rfl
    refine hK.out _ _ ⟨((cell_far (p:=⟨aB,_,none⟩) aE.out _).trans (((cell_far (p:=⟨aB,_,none⟩) aE.out _).trans (((cell_far (p:=⟨aB,_,none⟩) aE.out _).trans (hHeld.1)))))),((cell_far (p:=⟨aB,_,none⟩) aE.out _).trans (((cell_far (p:=⟨aB,_,none⟩) aE.out _).trans (((cell_far (p:=⟨aB,_,none⟩) aE.out _).trans (hHeld.2.1)))))),((cell_far (p:=⟨aB,_,none⟩) aE.out _).trans (((cell_far (p:=⟨aB,_,none⟩) aE.out _).trans (((cell_far (p:=⟨aB,_,none⟩) aE.out _).trans (hHeld.2.2))))))⟩ (fun hHeld=> ?_)
    clear hK K
    refine pure_ (i:=12) (N:=some 77) (v:=?_) (a':=?_) (rl [13,5]) rfl rfl (any_of HT_.out (by kernel_rfl)) (fun _ _ _ h=> h) (Or.inl ⟨by rfl,?_⟩) ?_ ?_
    rotate_left
    ·intro w'
     go_simp
     with_reducible rfl
    rotate_left
    ·simp only[Act.put,l_a,l_z,l_s,i64_w,i32_w]
     rfl
    refine pure_ (i:=13) (N:=some 78) (v:=?_) (a':=?_) (rl [14,4]) rfl rfl (any_of HT_.out (by kernel_rfl)) (fun _ _ _ h=> h) (Or.inl ⟨by rfl,?_⟩) ?_ ?_
    rotate_left
    ·intro w'
     go_simp
     with_reducible rfl
    rotate_left
    ·simp only[Act.put,l_a,l_z,l_s,i64_w,i32_w]
     rfl
    refine one_ (i:=14) (N:=none) (rl [15,3]) rfl rfl (one_of HT_.out (by kernel_rfl)) (by decide) (fun K hK=> ?_)
    have hs54:e5.cell? ⟨aB,10,none⟩=some (.string (⟨#[]⟩:ByteArray)):=(blk_cell aA.out 10).trans rfl
    have hfs54:=blk_frozen aA.out 10
    have gR:=aD.out
    have gS:=aE.out
    have gT:=aF.out
    have gU:=aM.out
    refine skip_ (w1:=?_) (by rfl) rfl ?_ ?_
    rotate_left
    ·go_simp
     rfl
    refine hK.out _ _ ⟨((cell_far (p:=⟨aB,_,none⟩) aE.out _).trans (hHeld.1)),((cell_far (p:=⟨aB,_,none⟩) aE.out _).trans (hHeld.2.1)),((cell_far (p:=⟨aB,_,none⟩) aE.out _).trans (hHeld.2.2))⟩ (fun hHeld=> ?_)
    clear hK K
    refine pure_ (i:=15) (N:=some 79) (v:=?_) (a':=?_) (rl [16,2]) rfl rfl (any_of HT_.out (by kernel_rfl)) (fun _ _ _ h=> h) (Or.inl ⟨by rfl,?_⟩) ?_ ?_
    rotate_left
    ·intro w'
     go_simp
     with_reducible rfl
    rotate_left
    ·simp only[Act.put,l_a,l_z,l_s,i64_w,i32_w]
     rfl
    refine pure_ (i:=16) (N:=some 80) (v:=?_) (a':=?_) (rl [17,1]) rfl rfl (any_of HT_.out (by kernel_rfl)) (fun _ _ _ h=> h) (Or.inl ⟨by rfl,?_⟩) ?_ ?_
    rotate_left
    ·intro w'
     go_simp
     with_reducible rfl
    rotate_left
    ·simp only[Act.put,l_a,l_z,l_s,i64_w,i32_w]
     rfl
    refine one_ (i:=17) (N:=none) (rl [18]) rfl rfl (one_of HT_.out (by kernel_rfl)) (by decide) (fun K hK=> ?_)
    have hs55:e5.cell? ⟨aB,11,none⟩=some (i6 0):=(blk_cell aA.out 11).trans rfl
    have hfs55:=blk_frozen aA.out 11
    have gV:=aD.out
    have gW:=aE.out
    have gX:=aF.out
    have gY:=aM.out
    refine skip_ (w1:=?_) (by rfl) rfl ?_ ?_
    rotate_left
    ·go_simp
     rfl
    refine hK.out _ _ ⟨((cell_far (p:=⟨aB,_,none⟩) aE.out _).trans (hHeld.1)),((cell_far (p:=⟨aB,_,none⟩) aE.out _).trans (hHeld.2.1)),((cell_far (p:=⟨aB,_,none⟩) aE.out _).trans (hHeld.2.2))⟩ (fun hHeld=> ?_)
    clear hK K
    refine done_ (done_of HT_.out (by kernel_rfl)) ?_
    have kI:=aF.out
    have kJ:=aD.out
    have kK:=aM.out
    have kL:=aE.out
    have kM:=aH.out
    have kN:=aW.out
    obtain⟨gZ,g0,g1,g2,g3,g4,g5,g6,g7,g8,e6,e7⟩:=bc12 aA.out
    obtain⟨g9,hA,hC,hD,hE,hF,hG,hH,hJ,hL,e8,e9⟩:=bf12 aA.out
    have kO:=a5.out
    have kP:=bO.out
    have kQ:=aJ.out
    have kR:=bC.out
    obtain⟨hM,hN,hO,hP,hQ,hR,hS,hT,hU,hV,fA,fB⟩:=bc12 aC.out
    obtain⟨hW,hX,hY,hZ,h0,h1,h2,h3,h4,h5,fC,fD⟩:=bf12 aC.out
    try go_wp2
    refine bodyPost_ret (results_cell_row rfl _ _ aG 28 #[i6 aI,i6 aK,i6 aL,i6 aN,i6 aV,i6 aX,i6 a7,i6 aZ,i6 a6,.slice bE a3.length bF,.string b9,i6 eH] (0,0) _ rfl (by refine blk_put (cs:=#[i6 aI,i6 aK,i6 aL,i6 aN,i6 aV,i6 aX,i6 a7,i6 aZ,i6 a6,.slice bE a3.length bF,.string b9,i6 0]) ?_ 11 _ rfl;refine blk_put (cs:=#[i6 aI,i6 aK,i6 aL,i6 aN,i6 aV,i6 aX,i6 a7,i6 aZ,i6 a6,.slice bE a3.length bF,.string (⟨#[]⟩:ByteArray),i6 0]) ?_ 10 _ rfl;refine blk_put (cs:=#[i6 aI,i6 aK,i6 aL,i6 aN,i6 aV,i6 aX,i6 a7,i6 aZ,i6 a6,.slice none 0 0,.string (⟨#[]⟩:ByteArray),i6 0]) ?_ 9 _ rfl;refine blk_put (cs:=#[i6 aI,i6 aK,i6 aL,i6 aN,i6 aV,i6 aX,i6 a7,i6 aZ,i6 0,.slice none 0 0,.string (⟨#[]⟩:ByteArray),i6 0]) ?_ 8 _ rfl;refine blk_put (cs:=#[i6 aI,i6 aK,i6 aL,i6 aN,i6 aV,i6 aX,i6 a7,i6 0,i6 0,.slice none 0 0,.string (⟨#[]⟩:ByteArray),i6 0]) ?_ 7 _ rfl;refine blk_put (cs:=#[i6 aI,i6 aK,i6 aL,i6 aN,i6 aV,i6 aX,i6 0,i6 0,i6 0,.slice none 0 0,.string (⟨#[]⟩:ByteArray),i6 0]) ?_ 6 _ rfl;refine blk_put (cs:=#[i6 aI,i6 aK,i6 aL,i6 aN,i6 aV,i6 0,i6 0,i6 0,i6 0,.slice none 0 0,.string (⟨#[]⟩:ByteArray),i6 0]) ?_ 5 _ rfl;refine blk_put (cs:=#[i6 aI,i6 aK,i6 aL,i6 aN,i6 0,i6 0,i6 0,i6 0,i6 0,.slice none 0 0,.string (⟨#[]⟩:ByteArray),i6 0]) ?_ 4 _ rfl;refine blk_put (cs:=#[i6 aI,i6 aK,i6 aL,i6 0,i6 0,i6 0,i6 0,i6 0,i6 0,.slice none 0 0,.string (⟨#[]⟩:ByteArray),i6 0]) ?_ 3 _ rfl;refine blk_put (cs:=#[i6 aI,i6 aK,i6 0,i6 0,i6 0,i6 0,i6 0,i6 0,i6 0,.slice none 0 0,.string (⟨#[]⟩:ByteArray),i6 0]) ?_ 2 _ rfl;refine blk_put (cs:=#[i6 aI,i6 0,i6 0,i6 0,i6 0,i6 0,i6 0,i6 0,i6 0,.slice none 0 0,.string (⟨#[]⟩:ByteArray),i6 0]) ?_ 1 _ rfl;refine blk_put (cs:=#[i6 0,i6 0,i6 0,i6 0,i6 0,i6 0,i6 0,i6 0,i6 0,.slice none 0 0,.string (⟨#[]⟩:ByteArray),i6 0]) ?_ 0 _ rfl;(iterate 5 refine blk_far ?_ aD.out _);exact aC.out) Tryz.underlying28 rfl (by kernel_rfl)) rfl ?_
    exact⟨_,by rfl,by exact Kd.R_mono (Kd.R_far (p:=⟨aG,11,none⟩) (Kd.R_far (p:=⟨aG,10,none⟩) (Kd.R_far (p:=⟨aG,9,none⟩) (Kd.R_far (p:=⟨aG,8,none⟩) (Kd.R_far (p:=⟨aG,7,none⟩) (Kd.R_far (p:=⟨aG,6,none⟩) (Kd.R_far (p:=⟨aG,5,none⟩) (Kd.R_far (p:=⟨aG,4,none⟩) (Kd.R_far (p:=⟨aG,3,none⟩) (Kd.R_far (p:=⟨aG,2,none⟩) (Kd.R_far (p:=⟨aG,1,none⟩) (Kd.R_far (p:=⟨aG,0,none⟩) (Kd.R_far (p:=⟨aB,11,none⟩) (Kd.R_far (p:=⟨aB,10,none⟩) (Kd.R_far (p:=⟨aB,9,none⟩) (Kd.R_far (p:=⟨aB,8,none⟩) (Kd.R_far (p:=⟨aB,7,none⟩) (Kd.R_types (Kd.R_types HO_246002.out aA.out (by decide)) aC.out (by decide)) (fun _ hk=> hk.1.2) (i6 aZ)) (fun _ hk=> hk.1.2) (i6 a6)) (fun _ hk=> hk.1.2) (.slice bE a3.length bF)) (fun _ hk=> hk.1.2) (.string b9)) (fun _ hk=> hk.1.2) (i6 eH)) (fun _ hk=> hk.2) (i6 aI)) (fun _ hk=> hk.2) (i6 aK)) (fun _ hk=> hk.2) (i6 aL)) (fun _ hk=> hk.2) (i6 aN)) (fun _ hk=> hk.2) (i6 aV)) (fun _ hk=> hk.2) (i6 aX)) (fun _ hk=> hk.2) (i6 a7)) (fun _ hk=> hk.2) (i6 aZ)) (fun _ hk=> hk.2) (i6 a6)) (fun _ hk=> hk.2) (.slice bE a3.length bF)) (fun _ hk=> hk.2) (.string b9)) (fun _ hk=> hk.2) (i6 eH)) (fun _ hk=> trivial),by repeat(with_reducible first|exact HI0.out|apply IsS68.far (hne:=bC.out)|apply IsS68.far (hne:=aW.out)),by repeat(with_reducible first|exact HB.out|refine below_set ?_ b0.out|refine below_set ?_ bI.out),by repeat(with_reducible first|exact HK.out|refine keep_far ?_ bZ.out _|refine keep_far ?_ aY.out _)⟩
 ·rw[if_neg c8]at H
  have jU:decide (0< aN)=false:=decide_eq_false c8
  clear c8
  simp only[Option.some.injEq,Prod.mk.injEq]at H
  obtain⟨rfl,rfl,rfl,rfl,rfl,rfl,rfl,rfl,rfl,rfl,rfl,rfl,rfl,rfl,rfl⟩:=H
  go_enter Tryz.func30,Tryz.ntmps30
  try go_wp2_with (first|((with_reducible refine gate_dst (N:=2) rfl ?_);refine box_event ?hg (N:=2) ?hd (cs:=#[i6 0,i6 0,i6 0,i6 0,i6 0,i6 0,i6 0,i6 0,i6 0,.slice none 0 0,.string (⟨#[]⟩:ByteArray),i6 0]) (t:=28) ?hr ?_;(case hd=> rfl);(case hg=> rfl);(case hr=> (go_simp;done));intro aG hg lK hbox hb;replace HB:=am (below_step (HB.out) hb);have aC:=am (hbox);have bZ:=am ((by rw[hg];exact(keep_size (w:=w) (g:=g) (row:=none) (HK.out)):w.heap.size≤aG));have b0:=am ((Nat.le_trans HW0.out (by rw[hg];exact(keep_size (w:=w) (g:=g) (row:=none) (HK.out)):w.heap.size≤aG):w0.heap.size≤aG));replace HK:=am (KeepBut.trans (HK.out) (KeepBut.of_below hb g none) (.inl rfl));have bC:=am ((by rw[hg];exact Nat.ne_of_lt (IsS68.lt (show IsS68 w0 _ g a8 a9 bA from HI0.out)):g≠aG));have aJ:=am ((by rw[hg];exact Nat.ne_of_gt (IsS68.lt (show IsS68 w0 _ g a8 a9 bA from HI0.out)):aG≠g));replace HI0:=am (IsS68.below (HI0.out) hb);clear hb hbox hg)|((with_reducible refine gate_dst (N:=3) rfl ?_);refine box_event ?hg (N:=3) ?hd (cs:=#[i6 0,i6 0,i6 0,i6 0,i6 0,i6 0,i6 0,i6 0,i6 0,.slice none 0 0,.string (⟨#[]⟩:ByteArray),i6 0]) (t:=28) ?hr ?_;(case hd=> rfl);(case hg=> rfl);(case hr=> (go_simp;done));intro aB hg k5 hbox hb;replace HB:=am (below_step (HB.out) hb);have aA:=am (hbox);have aY:=am ((by rw[hg];exact(keep_size (w:=w) (g:=g) (row:=none) (HK.out)):w.heap.size≤aB));have bI:=am ((Nat.le_trans HW0.out (by rw[hg];exact(keep_size (w:=w) (g:=g) (row:=none) (HK.out)):w.heap.size≤aB):w0.heap.size≤aB));replace HK:=am (KeepBut.trans (HK.out) (KeepBut.of_below hb g none) (.inl rfl));have aD:=am ((by rw[hg];exact Nat.ne_of_lt (blk_lt aC.out):aG≠aB));have aF:=am ((by rw[hg];exact Nat.ne_of_gt (blk_lt aC.out):aB≠aG));replace aC:=am (blk_below aC.out hb);have aW:=am ((by rw[hg];exact Nat.ne_of_lt (IsS68.lt (show IsS68 w0 _ g a8 a9 bA from HI0.out)):g≠aB));have aH:=am ((by rw[hg];exact Nat.ne_of_gt (IsS68.lt (show IsS68 w0 _ g a8 a9 bA from HI0.out)):aB≠g));replace HI0:=am (IsS68.below (HI0.out) hb);clear hb hbox hg))
  have aP:=am (blk_drew aC.out)
  have aQ:=am (blk_drew aA.out)
  have aR:=am (IsS68.drew HI0.out)
  have aS:=am (keep_drew HK.out)
  have aT:=am (below_drew1 HB.out)
  clear aC aA HI0 HK HB
  have aC:=aP
  have aA:=aQ
  have HI0:=aR
  have HK:=aS
  have HB:=aT
  clear aP aQ aR aS aT
  refine start_ (n:=18) (S:=fun w'=> True) (ds:=[]) (rl [0,18]) (by kernel_rfl) rfl rfl trivial (fun hHeld=> ?_);refine with_tabW note_reader_frame.tab2 note_reader_frame.bits2 (fun HT_ HW_=> ?_)
  generalize k5.drew=lL at aC aA HI0 HK HB hHeld ⊢
  refine pure_ (i:=0) (N:=some 6) (v:=?_) (a':=?_) (rl [1,17]) rfl rfl (any_of HT_.out (by kernel_rfl)) (fun _ _ _ h=> h) (Or.inl ⟨by rfl,?_⟩) ?_ ?_
  rotate_left
  ·intro w'
   go_simp
   with_reducible rfl
  rotate_left
  ·simp only[Act.put,l_a,l_z,l_s,i64_w,i32_w]
   rfl
  refine pure_ (i:=1) (N:=some 7) (v:=?_) (a':=?_) (rl [2,16]) rfl rfl (any_of HT_.out (by kernel_rfl)) (fun _ _ _ h=> h) (Or.inl ⟨by rfl,?_⟩) ?_ ?_
  rotate_left
  ·intro w'
   go_simp
   with_reducible rfl
  rotate_left
  ·simp only[Act.put,l_a,l_z,l_s,i64_w,i32_w]
   rfl
  refine pure_ (i:=2) (N:=some 8) (v:=?_) (a':=?_) (rl [3,15]) rfl rfl (any_of HT_.out (by kernel_rfl)) (fun _ _ _ h=> h) (Or.inl ⟨by rfl,?_⟩) ?_ ?_
  rotate_left
  ·intro w'
   go_simp
   with_reducible rfl
  rotate_left
  ·simp only[Act.put,l_a,l_z,l_s,i64_w,i32_w]
   rfl
  refine pure_ (i:=4) (N:=some 10) (v:=?_) (a':=?_) (rl [3,1,1,13]) rfl rfl (any_of HT_.out (by kernel_rfl)) (fun _ _ _ h=> h) (Or.inl ⟨by rfl,?_⟩) ?_ ?_
  rotate_left
  ·intro w'
   go_simp
   with_reducible rfl
  rotate_left
  ·simp only[Act.put,l_a,l_z,l_s,i64_w,i32_w]
   rfl
  refine pure_ (i:=5) (N:=some 11) (v:=?_) (a':=?_) (rl [3,1,2,12]) rfl rfl (any_of HT_.out (by kernel_rfl)) (fun _ _ _ h=> h) (Or.inl ⟨by rfl,?_⟩) ?_ ?_
  rotate_left
  ·intro w'
   go_simp
   with_reducible rfl
  rotate_left
  ·simp only[Act.put,l_a,l_z,l_s,i64_w,i32_w]
   rfl
  refine pure_ (i:=6) (N:=some 12) (v:=?_) (a':=?_) (rl [3,1,3,11]) rfl rfl (any_of HT_.out (by kernel_rfl)) (fun _ _ _ h=> h) (Or.inl ⟨by rfl,?_⟩) ?_ ?_
  rotate_left
  ·intro w'
   go_simp
   with_reducible rfl
  rotate_left
  ·simp only[Act.put,l_a,l_z,l_s,i64_w,i32_w]
   rfl
  refine pure_ (i:=8) (N:=some 14) (v:=?_) (a':=?_) (rl [3,1,3,1,1,9]) rfl rfl (any_of HT_.out (by kernel_rfl)) (fun _ _ _ h=> h) (Or.inl ⟨by rfl,?_⟩) ?_ ?_
  rotate_left
  ·intro w'
   go_simp
   with_reducible rfl
  rotate_left
  ·simp only[Act.put,l_a,l_z,l_s,i64_w,i32_w]
   rfl
  refine pure_ (i:=9) (N:=some 15) (v:=?_) (a':=?_) (rl [3,1,3,1,2,8]) rfl rfl (any_of HT_.out (by kernel_rfl)) (fun _ _ _ h=> h) (Or.inl ⟨by rfl,?_⟩) ?_ ?_
  rotate_left
  ·intro w'
   go_simp
   with_reducible rfl
  rotate_left
  ·simp only[Act.put,l_a,l_z,l_s,i64_w,i32_w]
   rfl
  refine pure_ (i:=10) (N:=some 16) (v:=?_) (a':=?_) (rl [3,1,3,1,3,7]) rfl rfl (any_of HT_.out (by kernel_rfl)) (fun _ _ _ h=> h) (Or.inl ⟨by rfl,?_⟩) ?_ ?_
  rotate_left
  ·intro w'
   go_simp
   with_reducible rfl
  rotate_left
  ·simp only[Act.put,l_a,l_z,l_s,i64_w,i32_w]
   rfl
  refine one_ (i:=3) (N:=some 9) (rl [7,1,3,7]) rfl rfl (one_of HT_.out (by kernel_rfl)) (by decide) (fun K hK=> ?_)
  refine goes_ Tryz.func52 (by kernel_rfl) rfl #[.pointer (some ⟨g,0,none⟩)] (by rfl) rfl rfl (by(try simp only[l_m,l_c,l_n]);rfl) ?_
  with_reducible refine(note_place_number.calls k g a8 a9 bA aI cK cL cM w0 _ ?side1 ?side2 A2.out).mono ?_
  (case side1=> exact HI0.out)
  (case side2=> exact HB.out)
  rintro e lM ⟨rfl,hi,hb,hk⟩
  refine⟨_,rfl,?_⟩
  have aP:=am (KeepBut.blk hk (g':=aG) (o:=.cells #[i6 0,i6 0,i6 0,i6 0,i6 0,i6 0,i6 0,i6 0,i6 0,.slice none 0 0,.string (⟨#[]⟩:ByteArray),i6 0] 28 (0,0)) (by exact aC.out) aJ.out (by simp))
  have aQ:=am (KeepBut.blk hk (g':=aB) (o:=.cells #[i6 0,i6 0,i6 0,i6 0,i6 0,i6 0,i6 0,i6 0,i6 0,.slice none 0 0,.string (⟨#[]⟩:ByteArray),i6 0] 28 (0,0)) (by exact aA.out) aH.out (by simp))
  have aR:=am (KeepBut.trans (HK.out) hk (.inl rfl))
  have aS:=am (hb)
  have aT:=am (hi)
  clear aC aA HK HB HI0
  have aC:=aP
  have aA:=aQ
  have HK:=aR
  have HB:=aS
  have HI0:=aT
  clear aP aQ aR aS aT
  clear hb
  clear hk
  clear hi
  refine hK.out _ _ trivial (fun hHeld=> ?_)
  clear hK K
  refine norm_ (a':=?_) ?_ ?_
  rotate_left
  ·show Act.put _ (some 9) _=_
   simp only[Act.put,l_a,l_z,l_s,i64_w,i32_w]
   rfl
  refine pure_ (i:=12) (N:=some 18) (v:=?_) (a':=?_) (rl [7,1,3,1,1,5]) rfl rfl (any_of HT_.out (by kernel_rfl)) (fun _ _ _ h=> h) (Or.inl ⟨by rfl,?_⟩) ?_ ?_
  rotate_left
  ·intro w'
   go_simp
   with_reducible rfl
  rotate_left
  ·simp only[Act.put,l_a,l_z,l_s,i64_w,i32_w]
   rfl
  refine one_ (i:=7) (N:=some 13) (rl [11,1,1,5]) rfl rfl (one_of HT_.out (by kernel_rfl)) (by decide) (fun K hK=> ?_)
  refine goes_ Tryz.func52 (by kernel_rfl) rfl #[.pointer (some ⟨g,0,none⟩)] (by rfl) rfl rfl (by(try simp only[l_m,l_c,l_n]);rfl) ?_
  with_reducible refine(note_place_number.calls k g cK cL cM aK cN cO cP w0 _ ?side1 ?side2 A3.out).mono ?_
  (case side1=> exact HI0.out)
  (case side2=> exact HB.out)
  rintro e lN ⟨rfl,hi,hb,hk⟩
  refine⟨_,rfl,?_⟩
  have aP:=am (KeepBut.blk hk (g':=aG) (o:=.cells #[i6 0,i6 0,i6 0,i6 0,i6 0,i6 0,i6 0,i6 0,i6 0,.slice none 0 0,.string (⟨#[]⟩:ByteArray),i6 0] 28 (0,0)) (by exact aC.out) aJ.out (by simp))
  have aQ:=am (KeepBut.blk hk (g':=aB) (o:=.cells #[i6 0,i6 0,i6 0,i6 0,i6 0,i6 0,i6 0,i6 0,i6 0,.slice none 0 0,.string (⟨#[]⟩:ByteArray),i6 0] 28 (0,0)) (by exact aA.out) aH.out (by simp))
  have aR:=am (KeepBut.trans (HK.out) hk (.inl rfl))
  have aS:=am (hb)
  have aT:=am (hi)
  clear aC aA HK HB HI0
  have aC:=aP
  have aA:=aQ
  have HK:=aR
  have HB:=aS
  have HI0:=aT
  clear aP aQ aR aS aT
  clear hb
  clear hk
  clear hi
  refine hK.out _ _ trivial (fun hHeld=> ?_)
  clear hK K
  refine norm_ (a':=?_) ?_ ?_
  rotate_left
  ·show Act.put _ (some 13) _=_
   simp only[Act.put,l_a,l_z,l_s,i64_w,i32_w]
   rfl
  refine one_ (i:=11) (N:=some 17) (rl [13,5]) rfl rfl (one_of HT_.out (by kernel_rfl)) (by decide) (fun K hK=> ?_)
  refine goes_ Tryz.func52 (by kernel_rfl) rfl #[.pointer (some ⟨g,0,none⟩)] (by rfl) rfl rfl (by(try simp only[l_m,l_c,l_n]);rfl) ?_
  with_reducible refine(note_place_number.calls k g cN cO cP aL bW bX bY w0 _ ?side1 ?side2 A4.out).mono ?_
  (case side1=> exact HI0.out)
  (case side2=> exact HB.out)
  rintro e eI ⟨rfl,hi,hb,hk⟩
  refine⟨_,rfl,?_⟩
  have aP:=am (KeepBut.blk hk (g':=aG) (o:=.cells #[i6 0,i6 0,i6 0,i6 0,i6 0,i6 0,i6 0,i6 0,i6 0,.slice none 0 0,.string (⟨#[]⟩:ByteArray),i6 0] 28 (0,0)) (by exact aC.out) aJ.out (by simp))
  have aQ:=am (KeepBut.blk hk (g':=aB) (o:=.cells #[i6 0,i6 0,i6 0,i6 0,i6 0,i6 0,i6 0,i6 0,i6 0,.slice none 0 0,.string (⟨#[]⟩:ByteArray),i6 0] 28 (0,0)) (by exact aA.out) aH.out (by simp))
  have aR:=am (KeepBut.trans (HK.out) hk (.inl rfl))
  have aS:=am (hb)
  have aT:=am (hi)
  clear aC aA HK HB HI0
  have aC:=aP
  have aA:=aQ
  have HK:=aR
  have HB:=aS
  have HI0:=aT
  clear aP aQ aR aS aT
  clear hb
  clear hk
  clear hi
  refine hK.out _ _ trivial (fun hHeld=> ?_)
  clear hK K
  refine norm_ (a':=?_) ?_ ?_
  rotate_left
  ·show Act.put _ (some 17) _=_
   simp only[Act.put,l_a,l_z,l_s,i64_w,i32_w]
   rfl
  refine one_ (i:=13) (N:=none) (rl [14,4]) rfl rfl (one_of HT_.out (by kernel_rfl)) (by decide) (fun K hK=> ?_)
  have hs69:eI.cell? ⟨aB,0,none⟩=some (i6 0):=(blk_cell aA.out 0).trans rfl
  have hfs69:=blk_frozen aA.out 0
  have h6:=aD.out
  have h7:=aF.out
  refine skip_ (w1:=?_) (by rfl) rfl ?_ ?_
  rotate_left
  ·go_simp
   rfl
  refine hK.out _ _ trivial (fun hHeld=> ?_)
  clear hK K
  refine pure_ (i:=14) (N:=some 19) (v:=?_) (a':=?_) (rl [15,3]) rfl rfl (any_of HT_.out (by kernel_rfl)) (fun _ _ _ h=> h) (Or.inl ⟨by rfl,?_⟩) ?_ ?_
  rotate_left
  ·intro w'
   go_simp
   with_reducible rfl
  rotate_left
  ·simp only[Act.put,l_a,l_z,l_s,i64_w,i32_w]
   rfl
  refine one_ (i:=15) (N:=none) (rl [16,2]) rfl rfl (one_of HT_.out (by kernel_rfl)) (by decide) (fun K hK=> ?_)
  have hs70:eI.cell? ⟨aB,1,none⟩=some (i6 0):=(blk_cell aA.out 1).trans rfl
  have hfs70:=blk_frozen aA.out 1
  have h8:=aD.out
  have h9:=aF.out
  refine skip_ (w1:=?_) (by rfl) rfl ?_ ?_
  rotate_left
  ·go_simp
   rfl
  refine hK.out _ _ trivial (fun hHeld=> ?_)
  clear hK K
  refine pure_ (i:=16) (N:=some 20) (v:=?_) (a':=?_) (rl [17,1]) rfl rfl (any_of HT_.out (by kernel_rfl)) (fun _ _ _ h=> h) (Or.inl ⟨by rfl,?_⟩) ?_ ?_
  rotate_left
  ·intro w'
   go_simp
   with_reducible rfl
  rotate_left
  ·simp only[Act.put,l_a,l_z,l_s,i64_w,i32_w]
   rfl
  refine one_ (i:=17) (N:=none) (rl [18]) rfl rfl (one_of HT_.out (by kernel_rfl)) (by decide) (fun K hK=> ?_)
  have hs71:eI.cell? ⟨aB,2,none⟩=some (i6 0):=(blk_cell aA.out 2).trans rfl
  have hfs71:=blk_frozen aA.out 2
  have iA:=aD.out
  have iB:=aF.out
  refine skip_ (w1:=?_) (by rfl) rfl ?_ ?_
  rotate_left
  ·go_simp
   rfl
  refine hK.out _ _ trivial (fun hHeld=> ?_)
  clear hK K
  refine done_ (done_of HT_.out (by kernel_rfl)) ?_
  try go_wp2
  have aP:Aside0 ((((eI.setCell ⟨aB,0,none⟩ (i6 aI)).setCell ⟨aB,1,none⟩ (i6 aK)).setCell ⟨aB,2,none⟩ (i6 aL)).heap[aG]?=some (.cells #[i6 0,i6 0,i6 0,i6 0,i6 0,i6 0,i6 0,i6 0,i6 0,.slice none 0 0,.string (⟨#[]⟩:ByteArray),i6 0] 28 (0,0))):=⟨by(iterate 3 refine blk_far ?_ aD.out _);exact aC.out⟩
  have aQ:Aside0 ((((eI.setCell ⟨aB,0,none⟩ (i6 aI)).setCell ⟨aB,1,none⟩ (i6 aK)).setCell ⟨aB,2,none⟩ (i6 aL)).heap[aB]?=some (.cells #[i6 aI,i6 aK,i6 aL,i6 0,i6 0,i6 0,i6 0,i6 0,i6 0,.slice none 0 0,.string (⟨#[]⟩:ByteArray),i6 0] 28 (0,0))):=⟨by exact bp (bp (bp aA.out 0) 1) 2⟩
  have aR:Aside0 (IsS68 w0 (((eI.setCell ⟨aB,0,none⟩ (i6 aI)).setCell ⟨aB,1,none⟩ (i6 aK)).setCell ⟨aB,2,none⟩ (i6 aL)) g bW bX bY):=⟨by repeat(with_reducible first|exact HI0.out|apply IsS68.far (hne:=aW.out))⟩
  have aS:Aside0 (KeepBut w (((eI.setCell ⟨aB,0,none⟩ (i6 aI)).setCell ⟨aB,1,none⟩ (i6 aK)).setCell ⟨aB,2,none⟩ (i6 aL)) g none):=⟨keep_far (keep_far (keep_far HK.out aY.out _) aY.out _) aY.out _⟩
  have aT:Aside0 (Below w0.heap.size w0 (((eI.setCell ⟨aB,0,none⟩ (i6 aI)).setCell ⟨aB,1,none⟩ (i6 aK)).setCell ⟨aB,2,none⟩ (i6 aL))):=⟨bs3 HB.out bI.out⟩
  clear aC
  clear aA
  clear HI0
  clear HK
  clear HB
  generalize (((eI.setCell ⟨aB,0,none⟩ (i6 aI)).setCell ⟨aB,1,none⟩ (i6 aK)).setCell ⟨aB,2,none⟩ (i6 aL))=k6 at aP aQ aR aS aT ⊢
  have aC:=aP
  have aA:=aQ
  have HI0:=aR
  have HK:=aS
  have HB:=aT
  clear aP aQ aR aS aT
  have aP:=am (blk_drew aC.out)
  have aQ:=am (blk_drew aA.out)
  have aR:=am (IsS68.drew HI0.out)
  have aS:=am (keep_drew HK.out)
  have aT:=am (below_drew1 HB.out)
  clear aC aA HI0 HK HB
  have aC:=aP
  have aA:=aQ
  have HI0:=aR
  have HK:=aS
  have HB:=aT
  clear aP aQ aR aS aT
  refine start_ (n:=18) (S:=fun w'=> True) (ds:=[]) (rl [0,18]) (by kernel_rfl) rfl rfl trivial (fun hHeld=> ?_);refine with_tabW note_reader_frame.tab3 note_reader_frame.bits3 (fun HT_ HW_=> ?_)
  generalize k6.drew=lO at aC aA HI0 HK HB hHeld ⊢
  refine pure_ (i:=0) (N:=some 21) (v:=?_) (a':=?_) (rl [1,17]) rfl rfl (any_of HT_.out (by kernel_rfl)) (fun _ _ _ h=> h) (Or.inl ⟨by rfl,?_⟩) ?_ ?_
  rotate_left
  ·intro w'
   go_simp
   with_reducible rfl
  rotate_left
  ·simp only[Act.put,l_a,l_z,l_s,i64_w,i32_w]
   rfl
  refine pure_ (i:=1) (N:=some 22) (v:=?_) (a':=?_) (rl [2,16]) rfl rfl (any_of HT_.out (by kernel_rfl)) (fun _ _ _ h=> h) (Or.inl ⟨by rfl,?_⟩) ?_ ?_
  rotate_left
  ·intro w'
   go_simp
   with_reducible rfl
  rotate_left
  ·simp only[Act.put,l_a,l_z,l_s,i64_w,i32_w]
   rfl
  refine pure_ (i:=2) (N:=some 23) (v:=?_) (a':=?_) (rl [3,15]) rfl rfl (any_of HT_.out (by kernel_rfl)) (fun _ _ _ h=> h) (Or.inl ⟨by rfl,?_⟩) ?_ ?_
  rotate_left
  ·intro w'
   go_simp
   with_reducible rfl
  rotate_left
  ·simp only[Act.put,l_a,l_z,l_s,i64_w,i32_w]
   rfl
  refine pure_ (i:=4) (N:=some 25) (v:=?_) (a':=?_) (rl [3,1,1,13]) rfl rfl (any_of HT_.out (by kernel_rfl)) (fun _ _ _ h=> h) (Or.inl ⟨by rfl,?_⟩) ?_ ?_
  rotate_left
  ·intro w'
   go_simp
   with_reducible rfl
  rotate_left
  ·simp only[Act.put,l_a,l_z,l_s,i64_w,i32_w]
   rfl
  refine pure_ (i:=5) (N:=some 26) (v:=?_) (a':=?_) (rl [3,1,2,12]) rfl rfl (any_of HT_.out (by kernel_rfl)) (fun _ _ _ h=> h) (Or.inl ⟨by rfl,?_⟩) ?_ ?_
  rotate_left
  ·intro w'
   go_simp
   with_reducible rfl
  rotate_left
  ·simp only[Act.put,l_a,l_z,l_s,i64_w,i32_w]
   rfl
  refine pure_ (i:=6) (N:=some 27) (v:=?_) (a':=?_) (rl [3,1,3,11]) rfl rfl (any_of HT_.out (by kernel_rfl)) (fun _ _ _ h=> h) (Or.inl ⟨by rfl,?_⟩) ?_ ?_
  rotate_left
  ·intro w'
   go_simp
   with_reducible rfl
  rotate_left
  ·simp only[Act.put,l_a,l_z,l_s,i64_w,i32_w]
   rfl
  refine pure_ (i:=8) (N:=some 29) (v:=?_) (a':=?_) (rl [3,1,3,1,1,9]) rfl rfl (any_of HT_.out (by kernel_rfl)) (fun _ _ _ h=> h) (Or.inl ⟨by rfl,?_⟩) ?_ ?_
  rotate_left
  ·intro w'
   go_simp
   with_reducible rfl
  rotate_left
  ·simp only[Act.put,l_a,l_z,l_s,i64_w,i32_w]
   rfl
  refine pure_ (i:=9) (N:=some 30) (v:=?_) (a':=?_) (rl [3,1,3,1,2,8]) rfl rfl (any_of HT_.out (by kernel_rfl)) (fun _ _ _ h=> h) (Or.inl ⟨by rfl,?_⟩) ?_ ?_
  rotate_left
  ·intro w'
   go_simp
   with_reducible rfl
  rotate_left
  ·simp only[Act.put,l_a,l_z,l_s,i64_w,i32_w]
   rfl
  refine pure_ (i:=10) (N:=some 31) (v:=?_) (a':=?_) (rl [3,1,3,1,3,7]) rfl rfl (any_of HT_.out (by kernel_rfl)) (fun _ _ _ h=> h) (Or.inl ⟨by rfl,?_⟩) ?_ ?_
  rotate_left
  ·intro w'
   go_simp
   with_reducible rfl
  rotate_left
  ·simp only[Act.put,l_a,l_z,l_s,i64_w,i32_w]
   rfl
  refine one_ (i:=3) (N:=some 24) (rl [7,1,3,7]) rfl rfl (one_of HT_.out (by kernel_rfl)) (by decide) (fun K hK=> ?_)
  refine goes_ Tryz.func52 (by kernel_rfl) rfl #[.pointer (some ⟨g,0,none⟩)] (by rfl) rfl rfl (by(try simp only[l_m,l_c,l_n]);rfl) ?_
  with_reducible refine(note_place_number.calls k g bW bX bY aN cQ cR cS w0 _ ?side1 ?side2 A5.out).mono ?_
  (case side1=> exact HI0.out)
  (case side2=> exact HB.out)
  rintro e lP ⟨rfl,hi,hb,hk⟩
  refine⟨_,rfl,?_⟩
  have aP:=am (KeepBut.blk hk (g':=aG) (o:=.cells #[i6 0,i6 0,i6 0,i6 0,i6 0,i6 0,i6 0,i6 0,i6 0,.slice none 0 0,.string (⟨#[]⟩:ByteArray),i6 0] 28 (0,0)) (by exact aC.out) aJ.out (by simp))
  have aQ:=am (KeepBut.blk hk (g':=aB) (o:=.cells #[i6 aI,i6 aK,i6 aL,i6 0,i6 0,i6 0,i6 0,i6 0,i6 0,.slice none 0 0,.string (⟨#[]⟩:ByteArray),i6 0] 28 (0,0)) (by exact aA.out) aH.out (by simp))
  have aR:=am (KeepBut.trans (HK.out) hk (.inl rfl))
  have aS:=am (hb)
  have aT:=am (hi)
  clear aC aA HK HB HI0
  have aC:=aP
  have aA:=aQ
  have HK:=aR
  have HB:=aS
  have HI0:=aT
  clear aP aQ aR aS aT
  clear hb
  clear hk
  clear hi
  refine hK.out _ _ trivial (fun hHeld=> ?_)
  clear hK K
  refine norm_ (a':=?_) ?_ ?_
  rotate_left
  ·show Act.put _ (some 24) _=_
   simp only[Act.put,l_a,l_z,l_s,i64_w,i32_w]
   rfl
  refine pure_ (i:=12) (N:=some 33) (v:=?_) (a':=?_) (rl [7,1,3,1,1,5]) rfl rfl (any_of HT_.out (by kernel_rfl)) (fun _ _ _ h=> h) (Or.inl ⟨by rfl,?_⟩) ?_ ?_
  rotate_left
  ·intro w'
   go_simp
   with_reducible rfl
  rotate_left
  ·simp only[Act.put,l_a,l_z,l_s,i64_w,i32_w]
   rfl
  refine one_ (i:=7) (N:=some 28) (rl [11,1,1,5]) rfl rfl (one_of HT_.out (by kernel_rfl)) (by decide) (fun K hK=> ?_)
  refine goes_ Tryz.func52 (by kernel_rfl) rfl #[.pointer (some ⟨g,0,none⟩)] (by rfl) rfl rfl (by(try simp only[l_m,l_c,l_n]);rfl) ?_
  with_reducible refine(note_place_number.calls k g cQ cR cS aV cT cU cV w0 _ ?side1 ?side2 A6.out).mono ?_
  (case side1=> exact HI0.out)
  (case side2=> exact HB.out)
  rintro e lQ ⟨rfl,hi,hb,hk⟩
  refine⟨_,rfl,?_⟩
  have aP:=am (KeepBut.blk hk (g':=aG) (o:=.cells #[i6 0,i6 0,i6 0,i6 0,i6 0,i6 0,i6 0,i6 0,i6 0,.slice none 0 0,.string (⟨#[]⟩:ByteArray),i6 0] 28 (0,0)) (by exact aC.out) aJ.out (by simp))
  have aQ:=am (KeepBut.blk hk (g':=aB) (o:=.cells #[i6 aI,i6 aK,i6 aL,i6 0,i6 0,i6 0,i6 0,i6 0,i6 0,.slice none 0 0,.string (⟨#[]⟩:ByteArray),i6 0] 28 (0,0)) (by exact aA.out) aH.out (by simp))
  have aR:=am (KeepBut.trans (HK.out) hk (.inl rfl))
  have aS:=am (hb)
  have aT:=am (hi)
  clear aC aA HK HB HI0
  have aC:=aP
  have aA:=aQ
  have HK:=aR
  have HB:=aS
  have HI0:=aT
  clear aP aQ aR aS aT
  clear hb
  clear hk
  clear hi
  refine hK.out _ _ trivial (fun hHeld=> ?_)
  clear hK K
  refine norm_ (a':=?_) ?_ ?_
  rotate_left
  ·show Act.put _ (some 28) _=_
   simp only[Act.put,l_a,l_z,l_s,i64_w,i32_w]
   rfl
  refine one_ (i:=11) (N:=some 32) (rl [13,5]) rfl rfl (one_of HT_.out (by kernel_rfl)) (by decide) (fun K hK=> ?_)
  refine goes_ Tryz.func52 (by kernel_rfl) rfl #[.pointer (some ⟨g,0,none⟩)] (by rfl) rfl rfl (by(try simp only[l_m,l_c,l_n]);rfl) ?_
  with_reducible refine(note_place_number.calls k g cT cU cV aX eN eO eP w0 _ ?side1 ?side2 A7.out).mono ?_
  (case side1=> exact HI0.out)
  (case side2=> exact HB.out)
  rintro e jZ ⟨rfl,hi,hb,hk⟩
  refine⟨_,rfl,?_⟩
  have aP:=am (KeepBut.blk hk (g':=aG) (o:=.cells #[i6 0,i6 0,i6 0,i6 0,i6 0,i6 0,i6 0,i6 0,i6 0,.slice none 0 0,.string (⟨#[]⟩:ByteArray),i6 0] 28 (0,0)) (by exact aC.out) aJ.out (by simp))
  have aQ:=am (KeepBut.blk hk (g':=aB) (o:=.cells #[i6 aI,i6 aK,i6 aL,i6 0,i6 0,i6 0,i6 0,i6 0,i6 0,.slice none 0 0,.string (⟨#[]⟩:ByteArray),i6 0] 28 (0,0)) (by exact aA.out) aH.out (by simp))
  have aR:=am (KeepBut.trans (HK.out) hk (.inl rfl))
  have aS:=am (hb)
  have aT:=am (hi)
  clear aC aA HK HB HI0
  have aC:=aP
  have aA:=aQ
  have HK:=aR
  have HB:=aS
  have HI0:=aT
  clear aP aQ aR aS aT
  clear hb
  clear hk
  clear hi
  refine hK.out _ _ trivial (fun hHeld=> ?_)
  clear hK K
  refine norm_ (a':=?_) ?_ ?_
  rotate_left
  ·show Act.put _ (some 32) _=_
   simp only[Act.put,l_a,l_z,l_s,i64_w,i32_w]
   rfl
  refine one_ (i:=13) (N:=none) (rl [14,4]) rfl rfl (one_of HT_.out (by kernel_rfl)) (by decide) (fun K hK=> ?_)
  have hs77:jZ.cell? ⟨aB,3,none⟩=some (i6 0):=(blk_cell aA.out 3).trans rfl
  have hfs77:=blk_frozen aA.out 3
  have iC:=aD.out
  have iD:=aF.out
  refine skip_ (w1:=?_) (by rfl) rfl ?_ ?_
  rotate_left
  ·go_simp
   rfl
  refine hK.out _ _ trivial (fun hHeld=> ?_)
  clear hK K
  refine pure_ (i:=14) (N:=some 34) (v:=?_) (a':=?_) (rl [15,3]) rfl rfl (any_of HT_.out (by kernel_rfl)) (fun _ _ _ h=> h) (Or.inl ⟨by rfl,?_⟩) ?_ ?_
  rotate_left
  ·intro w'
   go_simp
   with_reducible rfl
  rotate_left
  ·simp only[Act.put,l_a,l_z,l_s,i64_w,i32_w]
   rfl
  refine one_ (i:=15) (N:=none) (rl [16,2]) rfl rfl (one_of HT_.out (by kernel_rfl)) (by decide) (fun K hK=> ?_)
  have hs78:jZ.cell? ⟨aB,4,none⟩=some (i6 0):=(blk_cell aA.out 4).trans rfl
  have hfs78:=blk_frozen aA.out 4
  have iE:=aD.out
  have iF:=aF.out
  refine skip_ (w1:=?_) (by rfl) rfl ?_ ?_
  rotate_left
  ·go_simp
   rfl
  refine hK.out _ _ trivial (fun hHeld=> ?_)
  clear hK K
  refine pure_ (i:=16) (N:=some 35) (v:=?_) (a':=?_) (rl [17,1]) rfl rfl (any_of HT_.out (by kernel_rfl)) (fun _ _ _ h=> h) (Or.inl ⟨by rfl,?_⟩) ?_ ?_
  rotate_left
  ·intro w'
   go_simp
   with_reducible rfl
  rotate_left
  ·simp only[Act.put,l_a,l_z,l_s,i64_w,i32_w]
   rfl
  refine one_ (i:=17) (N:=none) (rl [18]) rfl rfl (one_of HT_.out (by kernel_rfl)) (by decide) (fun K hK=> ?_)
  have hs79:jZ.cell? ⟨aB,5,none⟩=some (i6 0):=(blk_cell aA.out 5).trans rfl
  have hfs79:=blk_frozen aA.out 5
  have iG:=aD.out
  have iH:=aF.out
  refine skip_ (w1:=?_) (by rfl) rfl ?_ ?_
  rotate_left
  ·go_simp
   rfl
  refine hK.out _ _ trivial (fun hHeld=> ?_)
  clear hK K
  refine done_ (done_of HT_.out (by kernel_rfl)) ?_
  have kS:=aF.out
  have kT:=aD.out
  have kU:=aH.out
  have kV:=aW.out
  obtain⟨iI,iJ,iK,iL,iM,iN,iO,iP,iQ,iR,fE,fF⟩:=bc12 aA.out
  obtain⟨iS,iT,iU,iV,iW,iX,iY,iZ,i0,i1,fG,fH⟩:=bf12 aA.out
  have kW:=aJ.out
  have kX:=bC.out
  obtain⟨i2,i3,i4,i5,i7,i8,i9,jA,jB,jC,fI,fJ⟩:=bc12 aC.out
  obtain⟨jD,jE,jF,jG,jH,jI,jJ,jK,jL,jM,fK,fL⟩:=bf12 aC.out
  try go_wp2
  refine bodyPost_ret (results_cell_row rfl _ _ aG 28 #[i6 aI,i6 aK,i6 aL,i6 aN,i6 aV,i6 aX,i6 0,i6 0,i6 0,.slice none 0 0,.string (⟨#[]⟩:ByteArray),i6 0] (0,0) _ rfl (by refine blk_put (cs:=#[i6 aI,i6 aK,i6 aL,i6 aN,i6 aV,i6 aX,i6 0,i6 0,i6 0,.slice none 0 0,.string (⟨#[]⟩:ByteArray),i6 0]) ?_ 11 _ rfl;refine blk_put (cs:=#[i6 aI,i6 aK,i6 aL,i6 aN,i6 aV,i6 aX,i6 0,i6 0,i6 0,.slice none 0 0,.string (⟨#[]⟩:ByteArray),i6 0]) ?_ 10 _ rfl;refine blk_put (cs:=#[i6 aI,i6 aK,i6 aL,i6 aN,i6 aV,i6 aX,i6 0,i6 0,i6 0,.slice none 0 0,.string (⟨#[]⟩:ByteArray),i6 0]) ?_ 9 _ rfl;refine blk_put (cs:=#[i6 aI,i6 aK,i6 aL,i6 aN,i6 aV,i6 aX,i6 0,i6 0,i6 0,.slice none 0 0,.string (⟨#[]⟩:ByteArray),i6 0]) ?_ 8 _ rfl;refine blk_put (cs:=#[i6 aI,i6 aK,i6 aL,i6 aN,i6 aV,i6 aX,i6 0,i6 0,i6 0,.slice none 0 0,.string (⟨#[]⟩:ByteArray),i6 0]) ?_ 7 _ rfl;refine blk_put (cs:=#[i6 aI,i6 aK,i6 aL,i6 aN,i6 aV,i6 aX,i6 0,i6 0,i6 0,.slice none 0 0,.string (⟨#[]⟩:ByteArray),i6 0]) ?_ 6 _ rfl;refine blk_put (cs:=#[i6 aI,i6 aK,i6 aL,i6 aN,i6 aV,i6 0,i6 0,i6 0,i6 0,.slice none 0 0,.string (⟨#[]⟩:ByteArray),i6 0]) ?_ 5 _ rfl;refine blk_put (cs:=#[i6 aI,i6 aK,i6 aL,i6 aN,i6 0,i6 0,i6 0,i6 0,i6 0,.slice none 0 0,.string (⟨#[]⟩:ByteArray),i6 0]) ?_ 4 _ rfl;refine blk_put (cs:=#[i6 aI,i6 aK,i6 aL,i6 0,i6 0,i6 0,i6 0,i6 0,i6 0,.slice none 0 0,.string (⟨#[]⟩:ByteArray),i6 0]) ?_ 3 _ rfl;refine blk_put (cs:=#[i6 aI,i6 aK,i6 0,i6 0,i6 0,i6 0,i6 0,i6 0,i6 0,.slice none 0 0,.string (⟨#[]⟩:ByteArray),i6 0]) ?_ 2 _ rfl;refine blk_put (cs:=#[i6 aI,i6 0,i6 0,i6 0,i6 0,i6 0,i6 0,i6 0,i6 0,.slice none 0 0,.string (⟨#[]⟩:ByteArray),i6 0]) ?_ 1 _ rfl;refine blk_put (cs:=#[i6 0,i6 0,i6 0,i6 0,i6 0,i6 0,i6 0,i6 0,i6 0,.slice none 0 0,.string (⟨#[]⟩:ByteArray),i6 0]) ?_ 0 _ rfl;(iterate 3 refine blk_far ?_ aD.out _);exact aC.out) Tryz.underlying28 rfl (by kernel_rfl)) rfl ?_
  exact⟨_,by rfl,by exact Kd.R_nil _ _ _ _ _,by repeat(with_reducible first|exact HI0.out|apply IsS68.far (hne:=bC.out)|apply IsS68.far (hne:=aW.out)),by repeat(with_reducible first|exact HB.out|refine below_set ?_ b0.out|refine below_set ?_ bI.out),by repeat(with_reducible first|exact HK.out|refine keep_far ?_ bZ.out _|refine keep_far ?_ aY.out _)⟩

end Go.Proofs.YtlaeihdldofkcaaGreatDoor.PN

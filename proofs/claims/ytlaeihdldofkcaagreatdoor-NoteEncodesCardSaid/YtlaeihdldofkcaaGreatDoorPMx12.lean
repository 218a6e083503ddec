/- The machine side of this seat's laws: plain functions, and proofs that the calls do what they say; written by a program of this session over the translation; no conditions beyond those typed. -/
import Derived.Test.YtlaeihdldofkcaaGreatDoorPMx0
import Derived.Test.YtlaeihdldofkcaaGreatDoorPMx2
import Derived.Test.YtlaeihdldofkcaaGreatDoorPMx3
import Derived.Test.YtlaeihdldofkcaaGreatDoorPMx6
import Derived.Test.YtlaeihdldofkcaaGreatDoorPMx7
import Derived.Test.YtlaeihdldofkcaaGreatDoorPMx8
namespace Go.Proofs.YtlaeihdldofkcaaGreatDoor.PN
open Go.RowKit Go.Proofs.YtlaeihdldofkcaaGreatDoorW.PrintWords Go.Proofs.YtlaeihdldofkcaaGreatDoorW.PrintLast Go.Proofs.YtlaeihdldofkcaaGreatDoorW.PrintMore
attribute [local go_sem] max2_int min2_int max_two min_two max_three min_three max_four min_four   -- for this text's walks alone
open List renaming setIfInBounds_toArray → l_a, set_cons_zero → l_z, set_cons_succ → l_s, map_toArray → l_m, map_cons → l_c, map_nil → l_n
set_option linter.unusedVariables false
set_option linter.unusedSimpArgs false

/-! ### ententelaw13_few: function 5 -/
def ententelaw13_few.f (aD:Int) (aE:Int) (aF:Int) (aA:List (S46)) (aC:ByteArray) (aG:Int):Option (Bool):=if(aA.length:Int)≤200 then(some (decide ((aC.size:Int)≤10000)))else(some false)
set_option maxHeartbeats 8000000 in
set_option maxRecDepth 100000 in
theorem ententelaw13_few.calls (aD:Int) (aE:Int) (aF:Int) (aH:Option Addr) (c0_3:Nat) (aA:List (S46)) (aC:ByteArray) (aG:Int) (r:Bool) (w:World) (aI:Kd.C k46 w aH aA.length aA) (aJ:aA.length≤c0_3) (h:ententelaw13_few.f aD aE aF aA aC aG=some r) :
  Calls Tryz.prog 5 #[.agg #[i6 aD,i6 aE,i6 aF,.slice aH aA.length c0_3,.string aC,i6 aG]] w fun e w'=> e=.returned (.bool r)∧Below w.heap.size w w':=by
 have hu26:=Tryz.underlying26
 have bD:=am aI
 have bE:=am aJ
 clear aI aJ
 have HB:=am (Below.refl w.heap.size w)
 unfold ententelaw13_few.f at h
 have H:=h
 clear h
 by_cases c2:(aA.length:Int)≤200
 ·rw[if_pos c2]at H
  have aN:=decide_eq_true c2
  have aO:decide (aA.length≤200)=true:=decide_eq_true (by omega)
  clear c2
  obtain rfl:=Option.some.inj H
  go_enter Tryz.func5,Tryz.ntmps5
  go_wp2_with (first|((with_reducible refine gate_dst (N:=1) rfl ?_);(try(refine gate_guard (by rfl) ?_;dsimp only));refine box_event ?hg (N:=1) ?hd (cs:=#[i6 aD,i6 aE,i6 aF,.slice aH aA.length c0_3,.string aC,i6 aG]) (t:=26) ?hr ?_;(case hd=> rfl);(case hg=> rfl);(case hr=> (go_simp;done));intro aK hg w3 hbox hb;have aB:=am (hbox);have aL:=am (gsz hg HB.out);have aM:=am (gsz hg HB.out);replace HB:=am (below_step (HB.out) hb);clear hb hbox hg;obtain⟨aP,aQ,aR,aS,aT,aU⟩:=bc6 aB.out;obtain⟨aV,aW,aX,aY,aZ,a0⟩:=bf6 aB.out))
  go_ret
  exact⟨by rfl,HB.out⟩
 ·rw[if_neg c2]at H
  have aN:=decide_eq_false c2
  have aO:decide (aA.length≤200)=false:=decide_eq_false (by omega)
  clear c2
  obtain rfl:=Option.some.inj H
  go_enter Tryz.func5,Tryz.ntmps5
  go_wp2_with (first|((with_reducible refine gate_dst (N:=1) rfl ?_);(try(refine gate_guard (by rfl) ?_;dsimp only));refine box_event ?hg (N:=1) ?hd (cs:=#[i6 aD,i6 aE,i6 aF,.slice aH aA.length c0_3,.string aC,i6 aG]) (t:=26) ?hr ?_;(case hd=> rfl);(case hg=> rfl);(case hr=> (go_simp;done));intro aK hg w5 hbox hb;have aB:=am (hbox);have aL:=am (gsz hg HB.out);have aM:=am (gsz hg HB.out);replace HB:=am (below_step (HB.out) hb);clear hb hbox hg;obtain⟨a1,a2,a3,a4,a5,a6⟩:=bc6 aB.out;obtain⟨a7,a8,a9,bA,bB,bC⟩:=bf6 aB.out))
  go_ret
  exact⟨by rfl,HB.out⟩

/-! ### ententelaw13_NoteEncodes: function 3 -/
def ententelaw13_NoteEncodes.f (k:Nat) (aH:Int) (aI:Int) (aJ:Int) (aK:Int) (aL:Int) (aM:Int) (aE:Int) (aF:Int) (aG:Int) (aD:List (S46)) (aB:ByteArray) (aC:Int):Option (Bool):=(ententelaw13_few.f aE aF aG aD aB aC).bind fun bB=> (if bB=true then((note_Encode.f k aH aI aJ aK aL aM aE aF aG aD aB aC).bind fun aR=> ((ententeref13_Encode.f k aH aI aJ aK aL aM aE aF aG aD aB aC).bind fun aS=> ((note_Frame.f k aH aI aJ aK aL aM aE aF aG aD aB aC).bind fun aT=> ((ententeref13_Frame.f k aH aI aJ aK aL aM aE aF aG aD aB aC).bind fun aU=> (if aT=aU then(if aR.1.toList=aS.1.toList then(if aR.2=aS.2 then((ententelaw13_awake.f k).bind fun aV=> (some aV))else(none))else(none))else(none))))))else((ententelaw13_awake.f k).bind fun aW=> (some aW)))
def ententelaw13_NoteEncodes.T5:Bool×List (List Nat×List Nat):=(true,[([],[]),([0],[0]),([],[]),([2,1],[2]),([1,3],[1,3]),([4,3],[4]),([5],[5]),([5],[5]),([6,7,5],[5,6,7]),([5,8],[5,8]),([9,5],[9]),([10],[10]),([10],[10]),([11,12,10],[10,11,12]),([10,13],[10,13]),([14,10],[14]),([15,15],[15]),([15,16],[15,16]),([17,16,0,1,2,3,4,5,6,7,8,9,10,11,12,13,14,15,16,17],[17])])
def ententelaw13_NoteEncodes.B5:List Nat:=[0,1,0,7,15,31,63,63,255,511,1023,2047,2047,8191,16383,32767,65535,131071,262143]
theorem ententelaw13_NoteEncodes.tab5:rtab .any (opsOf Tryz.f3 5)=ententelaw13_NoteEncodes.T5:=by kernel_rfl
theorem ententelaw13_NoteEncodes.bits5:waitsOk ententelaw13_NoteEncodes.T5.2 ententelaw13_NoteEncodes.B5=true:=by kernel_rfl
set_option maxHeartbeats 8000000 in
set_option maxRecDepth 100000 in
theorem ententelaw13_NoteEncodes.calls (k:Nat) (aH:Int) (aI:Int) (aJ:Int) (aK:Int) (aL:Int) (aM:Int) (aE:Int) (aF:Int) (aG:Int) (aO:Option Addr) (c0_9:Nat) (aD:List (S46)) (aB:ByteArray) (aC:Int) (r:Bool) (w:World) (aZ:Kd.C k46 w aO aD.length aD) (bA:aD.length≤c0_9) (hw_:WH w) (h:ententelaw13_NoteEncodes.f k aH aI aJ aK aL aM aE aF aG aD aB aC=some r) :
  Calls Tryz.prog 3 #[.agg #[i6 aH,i6 aI,i6 aJ,i6 aK,i6 aL,i6 aM,i6 aE,i6 aF,i6 aG,.slice aO aD.length c0_9,.string aB,i6 aC]] w fun e w'=> e=.returned (.bool r)∧Below w.heap.size w w':=by
 have hu28:=Tryz.underlying28
 have hu26:=Tryz.underlying26
 have aP:=am aZ
 have aQ:=am bA
 clear aZ bA
 have HWH_:=am hw_
 clear hw_
 have HB:=am (Below.refl w.heap.size w)
 unfold ententelaw13_NoteEncodes.f at h
 have H:=h
 clear h
 obtain⟨bB,eM,H⟩:=Option.bind_eq_some_iff.mp H
 try dsimp only at H
 have A2:=am eM
 clear eM
 by_cases c3:bB=true
 ·subst c3
  have H1:((note_Encode.f k aH aI aJ aK aL aM aE aF aG aD aB aC).bind fun aR=> ((ententeref13_Encode.f k aH aI aJ aK aL aM aE aF aG aD aB aC).bind fun aS=> ((note_Frame.f k aH aI aJ aK aL aM aE aF aG aD aB aC).bind fun aT=> ((ententeref13_Frame.f k aH aI aJ aK aL aM aE aF aG aD aB aC).bind fun aU=> (if aT=aU then(if aR.1.toList=aS.1.toList then(if aR.2=aS.2 then((ententelaw13_awake.f k).bind fun aV=> (some aV))else(none))else(none))else(none))))))=some r:=by rw[if_pos rfl]at H;exact H
  clear H
  have H:=H1
  clear H1
  obtain⟨⟨bC,bD⟩,eN,H⟩:=Option.bind_eq_some_iff.mp H
  try dsimp only at H
  have A4:=am eN
  clear eN
  obtain⟨⟨bE,bF⟩,eO,H⟩:=Option.bind_eq_some_iff.mp H
  try dsimp only at H
  have A5:=am eO
  clear eO
  obtain⟨aT,eP,H⟩:=Option.bind_eq_some_iff.mp H
  try dsimp only at H
  have A6:=am eP
  clear eP
  obtain⟨aU,eQ,H⟩:=Option.bind_eq_some_iff.mp H
  try dsimp only at H
  have A7:=am eQ
  clear eQ
  by_cases c8:aT=aU
  ·rw[if_pos c8]at H
   have eI:=beq_iff_eq.mpr c8
   have eJ:=bne_eq_false_iff_eq.mpr c8
   clear c8
   by_cases c9:bC.toList=bE.toList
   ·rw[if_pos c9]at H
    have eK:=beq_iff_eq.mpr c9
    have eL:=bne_eq_false_iff_eq.mpr c9
    clear c9
    by_cases c10:bD=bF
    ·rw[if_pos c10]at H
     have bG:=beq_iff_eq.mpr c10
     have bH:=bne_eq_false_iff_eq.mpr c10
     clear c10
     obtain⟨aV,bI,H⟩:=Option.bind_eq_some_iff.mp H
     try dsimp only at H
     have eR:=am bI
     clear bI
     obtain rfl:=Option.some.inj H
     go_enter Tryz.func3,Tryz.ntmps3
     try go_wp2_with (first|((with_reducible refine gate_dst (N:=1) rfl ?_);refine box_event ?hg (N:=1) ?hd (cs:=#[i6 aH,i6 aI,i6 aJ,i6 aK,i6 aL,i6 aM,i6 aE,i6 aF,i6 aG,.slice aO aD.length c0_9,.string aB,i6 aC]) (t:=28) ?hr ?_;(case hd=> rfl);(case hg=> rfl);(case hr=> (go_simp;done));intro aN hg eU hbox hb;have aA:=am (hbox);have bJ:=am (gsz hg HB.out);have bK:=am (gsz hg HB.out);replace HB:=am (below_step (HB.out) hb);clear hb hbox hg;obtain⟨b2,b3,b4,b5,b6,b7,b8,b9,cA,cB,bL,bM⟩:=bc12 aA.out;obtain⟨cC,cD,cE,cF,cG,cH,cI,cJ,cK,cL,bN,bO⟩:=bf12 aA.out)|((with_reducible refine gate_callee (f:=5) rfl ?_);refine goesL_ (some 9) rfl rfl Tryz.func5 (by kernel_rfl) rfl #[.agg #[i6 aE,i6 aF,i6 aG,.slice aO aD.length c0_9,.string aB,i6 aC]] rfl (by(try simp only[l_m,l_c,l_n]);rfl) ?_;(with_reducible refine(ententelaw13_few.calls aE aF aG _ _ aD aB aC true _ ?side1 ?side2 A2.out).mono ?_);(case side1=> exact(Kd.C_below aP.out HB.out));(case side2=> exact aQ.out);rintro e eV ⟨rfl,hb⟩;refine⟨_,rfl,?_⟩;replace aA:=am (blk_below aA.out hb);replace HB:=am (below_step (HB.out) hb);clear hb;obtain⟨cM,cN,cO,cP,cQ,cR,cS,cT,cU,cV,bP,bQ⟩:=bc12 aA.out;obtain⟨cW,cX,cY,cZ,c0,c1,dA,dB,dC,dD,bR,bS⟩:=bf12 aA.out)|((with_reducible refine gate_callee (f:=7) rfl ?_);refine goesL_ (some 14) rfl rfl Tryz.func7 (by kernel_rfl) rfl #[.agg #[i6 aH,i6 aI,i6 aJ,i6 aK,i6 aL,i6 aM,i6 aE,i6 aF,i6 aG,.slice aO aD.length c0_9,.string aB,i6 aC]] rfl (by(try simp only[l_m,l_c,l_n]);rfl) ?_;(with_reducible refine(note_Encode.calls k aH aI aJ aK aL aM aE aF aG _ _ aD aB aC bC bD _ ?side1 ?side2 ?side3 A4.out).mono ?_);(case side1=> exact(Kd.C_below aP.out HB.out));(case side2=> exact aQ.out);(case side3=> exact WH.below HWH_.out (HB.out));rintro e eW ⟨rfl,hb⟩;refine⟨_,rfl,?_⟩;replace aA:=am (blk_below aA.out hb);replace HB:=am (below_step (HB.out) hb);clear hb;obtain⟨dE,dF,dG,dH,dI,dJ,dK,dL,dM,dN,bT,bU⟩:=bc12 aA.out;obtain⟨dO,dP,dQ,dR,dS,dT,dU,dV,dW,dX,bV,bW⟩:=bf12 aA.out)|((with_reducible refine gate_callee (f:=8) rfl ?_);refine goesL_ (some 19) rfl rfl Tryz.func8 (by kernel_rfl) rfl #[.agg #[i6 aH,i6 aI,i6 aJ,i6 aK,i6 aL,i6 aM,i6 aE,i6 aF,i6 aG,.slice aO aD.length c0_9,.string aB,i6 aC]] rfl (by(try simp only[l_m,l_c,l_n]);rfl) ?_;(with_reducible refine(ententeref13_Encode.calls k aH aI aJ aK aL aM aE aF aG _ _ aD aB aC bE bF _ ?side1 ?side2 A5.out).mono ?_);(case side1=> exact(Kd.C_below aP.out HB.out));(case side2=> exact aQ.out);rintro e eS ⟨rfl,hb⟩;refine⟨_,rfl,?_⟩;replace aA:=am (blk_below aA.out hb);replace HB:=am (below_step (HB.out) hb);clear hb))
     have aX:=am (blk_drew aA.out)
     have aY:=am (below_drew1 HB.out)
     clear aA HB
     have aA:=aX
     have HB:=aY
     clear aX aY
     refine start_ (n:=19) (S:=fun w'=> w'.cell? ⟨aN,0,none⟩=some (i6 aH)∧w'.cell? ⟨aN,1,none⟩=some (i6 aI)∧w'.cell? ⟨aN,2,none⟩=some (i6 aJ)∧w'.cell? ⟨aN,3,none⟩=some (i6 aK)∧w'.cell? ⟨aN,4,none⟩=some (i6 aL)∧w'.cell? ⟨aN,5,none⟩=some (i6 aM)∧w'.cell? ⟨aN,6,none⟩=some (i6 aE)∧w'.cell? ⟨aN,7,none⟩=some (i6 aF)∧w'.cell? ⟨aN,8,none⟩=some (i6 aG)∧w'.cell? ⟨aN,9,none⟩=some (.slice aO aD.length c0_9)∧w'.cell? ⟨aN,10,none⟩=some (.string aB)∧w'.cell? ⟨aN,11,none⟩=some (i6 aC)) (ds:=[]) (rl [0,19]) (by kernel_rfl) rfl rfl (bc12 aA.out) (fun hHeld=> ?_);refine with_tabW ententelaw13_NoteEncodes.tab5 ententelaw13_NoteEncodes.bits5 (fun HT_ HW_=> ?_)
     generalize eS.drew=eX at aA HB hHeld ⊢
     refine take_ (i:=0) (N:=some 22) (v:=?_) (a':=?_) (rl [1,18]) rfl rfl (take_ofW HT_.out HW_.out (by kernel_rfl)) (fun _ _ _ h=> h) (Or.inl ⟨by rfl,?_⟩) hHeld ?_ ?_
     rotate_left
     ·rintro w' ⟨s0,s1,s2,s3,s4,s5,s6,s7,s8,s9,s10,s11⟩
      go_simp
      with_reducible rfl
     rotate_left
     ·simp only[Act.put,l_a,l_z,l_s,i64_w,i32_w]
      rfl
     refine take_ (i:=2) (N:=some 24) (v:=?_) (a':=?_) (rl [1,1,1,16]) rfl rfl (take_ofW HT_.out HW_.out (by kernel_rfl)) (fun _ _ _ h=> h) (Or.inl ⟨by rfl,?_⟩) hHeld ?_ ?_
     rotate_left
     ·rintro w' ⟨s0,s1,s2,s3,s4,s5,s6,s7,s8,s9,s10,s11⟩
      go_simp
      with_reducible rfl
     rotate_left
     ·simp only[Act.put,l_a,l_z,l_s,i64_w,i32_w]
      rfl
     refine one_ (i:=1) (N:=some 23) (rl [3,16]) rfl rfl (one_of HT_.out (by kernel_rfl)) (by decide) (fun K hK=> ?_)
     refine goes_ Tryz.func9 (by kernel_rfl) rfl #[.agg #[i6 aH,i6 aI,i6 aJ,i6 aK,i6 aL,i6 aM,i6 aE,i6 aF,i6 aG,.slice aO aD.length c0_9,.string aB,i6 aC]] (by rfl) rfl rfl (by(try simp only[l_m,l_c,l_n]);rfl) ?_
     with_reducible refine(note_Frame.calls k aH aI aJ aK aL aM aE aF aG _ _ aD aB aC aT _ ?side1 ?side2 A6.out).mono ?_
     (case side1=> exact(Kd.C_below aP.out HB.out))
     (case side2=> exact aQ.out)
     rintro e eY ⟨rfl,hb⟩
     refine⟨_,rfl,?_⟩
     have aX:=am (blk_below aA.out hb)
     have aY:=am (below_step (HB.out) hb)
     clear aA HB
     have aA:=aX
     have HB:=aY
     clear aX aY
     clear hb
     refine hK.out _ _ (bc12 aA.out) (fun hHeld=> ?_)
     clear hK K
     refine norm_ (a':=?_) ?_ ?_
     rotate_left
     ·show Act.put _ (some 23) _=_
      simp only[Act.put,l_a,l_z,l_s,i64_w,i32_w]
      rfl
     refine one_ (i:=3) (N:=some 25) (rl [4,15]) rfl rfl (one_of HT_.out (by kernel_rfl)) (by decide) (fun K hK=> ?_)
     refine goes_ Tryz.func10 (by kernel_rfl) rfl #[.agg #[i6 aH,i6 aI,i6 aJ,i6 aK,i6 aL,i6 aM,i6 aE,i6 aF,i6 aG,.slice aO aD.length c0_9,.string aB,i6 aC]] (by rfl) rfl rfl (by(try simp only[l_m,l_c,l_n]);rfl) ?_
     with_reducible refine(ententeref13_Frame.calls k aH aI aJ aK aL aM aE aF aG _ _ aD aB aC aU _ ?side1 ?side2 A7.out).mono ?_
     (case side1=> exact(Kd.C_below aP.out HB.out))
     (case side2=> exact aQ.out)
     rintro e eZ ⟨rfl,hb⟩
     refine⟨_,rfl,?_⟩
     have aX:=am (blk_below aA.out hb)
     have aY:=am (below_step (HB.out) hb)
     clear aA HB
     have aA:=aX
     have HB:=aY
     clear aX aY
     clear hb
     refine hK.out _ _ (bc12 aA.out) (fun hHeld=> ?_)
     clear hK K
     refine norm_ (a':=?_) ?_ ?_
     rotate_left
     ·show Act.put _ (some 25) _=_
      simp only[Act.put,l_a,l_z,l_s,i64_w,i32_w]
      rfl
     refine pure_ (i:=4) (N:=some 26) (v:=?_) (a':=?_) (rl [5,14]) rfl rfl (any_of HT_.out (by kernel_rfl)) (fun _ _ _ h=> h) (Or.inl ⟨by rfl,?_⟩) ?_ ?_
     rotate_left
     ·intro w'
      go_simp
      with_reducible rfl
     rotate_left
     ·simp only[Act.put,l_a,l_z,l_s,i64_w,i32_w]
      rfl
     refine pure_ (i:=5) (N:=some 27) (v:=?_) (a':=?_) (rl [6,13]) rfl rfl (any_of HT_.out (by kernel_rfl)) (fun _ _ _ h=> h) (Or.inl ⟨by rfl,?_⟩) ?_ ?_
     rotate_left
     ·intro w'
      go_simp
      with_reducible rfl
     rotate_left
     ·simp only[Act.put,l_a,l_z,l_s,i64_w,i32_w]
      rfl
     refine pure_ (i:=6) (N:=some 28) (v:=?_) (a':=?_) (rl [7,12]) rfl rfl (any_of HT_.out (by kernel_rfl)) (fun _ _ _ h=> h) (Or.inl ⟨by rfl,?_⟩) ?_ ?_
     rotate_left
     ·intro w'
      go_simp
      with_reducible rfl
     rotate_left
     ·simp only[Act.put,l_a,l_z,l_s,i64_w,i32_w]
      rfl
     refine pure_ (i:=7) (N:=some 29) (v:=?_) (a':=?_) (rl [8,11]) rfl rfl (any_of HT_.out (by kernel_rfl)) (fun _ _ _ h=> h) (Or.inl ⟨by rfl,?_⟩) ?_ ?_
     rotate_left
     ·intro w'
      go_simp
      with_reducible rfl
     rotate_left
     ·simp only[Act.put,l_a,l_z,l_s,i64_w,i32_w]
      rfl
     refine pure_ (i:=8) (N:=some 30) (v:=?_) (a':=?_) (rl [9,10]) rfl rfl (any_of HT_.out (by kernel_rfl)) (fun _ _ _ h=> h) (Or.inl ⟨by rfl,?_⟩) ?_ ?_
     rotate_left
     ·intro w'
      go_simp
      with_reducible rfl
     rotate_left
     ·simp only[Act.put,l_a,l_z,l_s,i64_w,i32_w]
      rfl
     refine pure_ (i:=9) (N:=some 31) (v:=?_) (a':=?_) (rl [10,9]) rfl rfl (any_of HT_.out (by kernel_rfl)) (fun _ _ _ h=> h) (Or.inl ⟨by rfl,?_⟩) ?_ ?_
     rotate_left
     ·intro w'
      go_simp
      with_reducible rfl
     rotate_left
     ·simp only[Act.put,l_a,l_z,l_s,i64_w,i32_w]
      rfl
     refine pure_ (i:=10) (N:=some 32) (v:=?_) (a':=?_) (rl [11,8]) rfl rfl (any_of HT_.out (by kernel_rfl)) (fun _ _ _ h=> h) (Or.inl ⟨by rfl,?_⟩) ?_ ?_
     rotate_left
     ·intro w'
      go_simp
      with_reducible rfl
     rotate_left
     ·simp only[Act.put,l_a,l_z,l_s,i64_w,i32_w]
      rfl
     refine pure_ (i:=11) (N:=some 33) (v:=?_) (a':=?_) (rl [12,7]) rfl rfl (any_of HT_.out (by kernel_rfl)) (fun _ _ _ h=> h) (Or.inl ⟨by rfl,?_⟩) ?_ ?_
     rotate_left
     ·intro w'
      go_simp
      with_reducible rfl
     rotate_left
     ·simp only[Act.put,l_a,l_z,l_s,i64_w,i32_w]
      rfl
     refine pure_ (i:=12) (N:=some 34) (v:=?_) (a':=?_) (rl [13,6]) rfl rfl (any_of HT_.out (by kernel_rfl)) (fun _ _ _ h=> h) (Or.inl ⟨by rfl,?_⟩) ?_ ?_
     rotate_left
     ·intro w'
      go_simp
      with_reducible rfl
     rotate_left
     ·simp only[Act.put,l_a,l_z,l_s,i64_w,i32_w]
      rfl
     refine pure_ (i:=13) (N:=some 35) (v:=?_) (a':=?_) (rl [14,5]) rfl rfl (any_of HT_.out (by kernel_rfl)) (fun _ _ _ h=> h) (Or.inl ⟨by rfl,?_⟩) ?_ ?_
     rotate_left
     ·intro w'
      go_simp
      with_reducible rfl
     rotate_left
     ·simp only[Act.put,l_a,l_z,l_s,i64_w,i32_w]
      rfl
     refine pure_ (i:=14) (N:=some 36) (v:=?_) (a':=?_) (rl [15,4]) rfl rfl (any_of HT_.out (by kernel_rfl)) (fun _ _ _ h=> h) (Or.inl ⟨by rfl,?_⟩) ?_ ?_
     rotate_left
     ·intro w'
      go_simp
      with_reducible rfl
     rotate_left
     ·simp only[Act.put,l_a,l_z,l_s,i64_w,i32_w]
      rfl
     refine pure_ (i:=15) (N:=some 37) (v:=?_) (a':=?_) (rl [16,3]) rfl rfl (any_of HT_.out (by kernel_rfl)) (fun _ _ _ h=> h) (Or.inl ⟨by rfl,?_⟩) ?_ ?_
     rotate_left
     ·intro w'
      go_simp
      with_reducible rfl
     rotate_left
     ·simp only[Act.put,l_a,l_z,l_s,i64_w,i32_w]
      rfl
     refine one_ (i:=16) (N:=some 38) (rl [17,2]) rfl rfl (one_of HT_.out (by kernel_rfl)) (by decide) (fun K hK=> ?_)
     refine goes_ Tryz.func6 (by kernel_rfl) rfl #[] (by rfl) rfl rfl (by(try simp only[l_m,l_c,l_n]);done) ?_
     with_reducible refine(ententelaw13_awake.calls k  aV _ ?side1 eR.out).mono ?_
     (case side1=> exact WH.below HWH_.out (HB.out))
     rintro e e0 ⟨rfl,hb⟩
     refine⟨_,rfl,?_⟩
     have aX:=am (blk_below aA.out hb)
     have aY:=am (below_step (HB.out) hb)
     clear aA HB
     have aA:=aX
     have HB:=aY
     clear aX aY
     clear hb
     refine hK.out _ _ (bc12 aA.out) (fun hHeld=> ?_)
     clear hK K
     refine norm_ (a':=?_) ?_ ?_
     rotate_left
     ·show Act.put _ (some 38) _=_
      simp only[Act.put,l_a,l_z,l_s,i64_w,i32_w]
      rfl
     refine pure_ (i:=17) (N:=some 39) (v:=?_) (a':=?_) (rl [18,1]) rfl rfl (any_of HT_.out (by kernel_rfl)) (fun _ _ _ h=> h) (Or.inl ⟨by rfl,?_⟩) ?_ ?_
     rotate_left
     ·intro w'
      go_simp
      with_reducible rfl
     rotate_left
     ·simp only[Act.put,l_a,l_z,l_s,i64_w,i32_w]
      rfl
     refine pure_ (i:=18) (N:=some 2) (v:=?_) (a':=?_) (rl [19]) rfl rfl (any_of HT_.out (by kernel_rfl)) (fun _ _ _ h=> h) (Or.inl ⟨by rfl,?_⟩) ?_ ?_
     rotate_left
     ·intro w'
      go_simp
      with_reducible rfl
     rotate_left
     ·simp only[Act.put,l_a,l_z,l_s,i64_w,i32_w]
      rfl
     refine done_ (done_of HT_.out (by kernel_rfl)) ?_
     try go_wp2
     go_ret
     exact⟨by rfl,HB.out⟩
    ·rw[if_neg c10]at H
     have bG:=beq_eq_false_iff_ne.mpr c10
     have bH:=bne_iff_ne.mpr c10
     exact absurd H (by simp)
   ·rw[if_neg c9]at H
    have eK:=beq_eq_false_iff_ne.mpr c9
    have eL:=bne_iff_ne.mpr c9
    exact absurd H (by simp)
  ·rw[if_neg c8]at H
   have eI:=beq_eq_false_iff_ne.mpr c8
   have eJ:=bne_iff_ne.mpr c8
   exact absurd H (by simp)
 ·replace c3:=Bool.eq_false_iff.mpr c3
  subst c3
  have H1:((ententelaw13_awake.f k).bind fun aW=> (some aW))=some r:=by rw[if_neg (show ¬ (false=true)by decide)]at H;exact H
  clear H
  have H:=H1
  clear H1
  obtain⟨aW,bX,H⟩:=Option.bind_eq_some_iff.mp H
  try dsimp only at H
  have eT:=am bX
  clear bX
  obtain rfl:=Option.some.inj H
  go_enter Tryz.func3,Tryz.ntmps3
  go_wp2_with (first|((with_reducible refine gate_dst (N:=1) rfl ?_);refine box_event ?hg (N:=1) ?hd (cs:=#[i6 aH,i6 aI,i6 aJ,i6 aK,i6 aL,i6 aM,i6 aE,i6 aF,i6 aG,.slice aO aD.length c0_9,.string aB,i6 aC]) (t:=28) ?hr ?_;(case hd=> rfl);(case hg=> rfl);(case hr=> (go_simp;done));intro aN hg e1 hbox hb;have aA:=am (hbox);have bJ:=am (gsz hg HB.out);have bK:=am (gsz hg HB.out);replace HB:=am (below_step (HB.out) hb);clear hb hbox hg;obtain⟨dY,dZ,d0,d1,d2,d3,d4,d5,d6,d7,bY,bZ⟩:=bc12 aA.out;obtain⟨d8,d9,eA,eB,eC,eD,eE,eF,eG,eH,b0,b1⟩:=bf12 aA.out)|((with_reducible refine gate_callee (f:=5) rfl ?_);refine goesL_ (some 9) rfl rfl Tryz.func5 (by kernel_rfl) rfl #[.agg #[i6 aE,i6 aF,i6 aG,.slice aO aD.length c0_9,.string aB,i6 aC]] rfl (by(try simp only[l_m,l_c,l_n]);rfl) ?_;(with_reducible refine(ententelaw13_few.calls aE aF aG _ _ aD aB aC false _ ?side1 ?side2 A2.out).mono ?_);(case side1=> exact(Kd.C_below aP.out HB.out));(case side2=> exact aQ.out);rintro e e2 ⟨rfl,hb⟩;refine⟨_,rfl,?_⟩;replace aA:=am (blk_below aA.out hb);replace HB:=am (below_step (HB.out) hb);clear hb)|((with_reducible refine gate_callee (f:=6) rfl ?_);refine goesL_ (some 11) rfl rfl Tryz.func6 (by kernel_rfl) rfl #[] rfl (by(try simp only[l_m,l_c,l_n]);done) ?_;(with_reducible refine(ententelaw13_awake.calls k  aW _ ?side1 eT.out).mono ?_);(case side1=> exact WH.below HWH_.out (HB.out));rintro e e3 ⟨rfl,hb⟩;refine⟨_,rfl,?_⟩;replace aA:=am (blk_below aA.out hb);replace HB:=am (below_step (HB.out) hb);clear hb))
  go_ret
  exact⟨by rfl,HB.out⟩

end Go.Proofs.YtlaeihdldofkcaaGreatDoor.PN

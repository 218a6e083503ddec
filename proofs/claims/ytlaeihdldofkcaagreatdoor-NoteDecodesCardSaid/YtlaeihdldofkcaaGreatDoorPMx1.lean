/- The machine side of this seat's laws: plain functions, and proofs that the calls do what they say; written by a program of this session over the translation; no conditions beyond those typed. -/
import Derived.Test.YtlaeihdldofkcaaGreatDoorPMx0
namespace Go.Proofs.YtlaeihdldofkcaaGreatDoor.PN
open Go.RowKit Go.Proofs.YtlaeihdldofkcaaGreatDoorW.PrintWords Go.Proofs.YtlaeihdldofkcaaGreatDoorW.PrintLast Go.Proofs.YtlaeihdldofkcaaGreatDoorW.PrintMore
attribute [local go_sem] max2_int min2_int max_two min_two max_three min_three max_four min_four   -- for this text's walks alone
open List renaming setIfInBounds_toArray → l_a, set_cons_zero → l_z, set_cons_succ → l_s, map_toArray → l_m, map_cons → l_c, map_nil → l_n
set_option linter.unusedVariables false
set_option linter.unusedSimpArgs false

/-! ### ident_path: function 60 -/
def ident_path.l0:Nat→List Int→List (S46)→Int→Int→Option (List Int)
 |0,_,_,_,_=> none
 |k+1,x3,bP,bR,bE=> if bE< bR then(if 0≤bE then(if bE< (bP.length:Int)then(if x3.length< 17592186044416 then(ident_path.l0 k (x3++[(rd_T46 bP bE).f1]) bP bR (wrap64 (bE+1)))else(none))else(none))else(none))else(some x3)
def ident_path.f (k:Nat) (aG:Int) (aN:Int) (aA:List (S46)):Option (List Int):=ident_path.l0 k (([aG]:List Int)) aA (aA.length:Int) 0
theorem ident_path.mono_l:∀ k,(∀ y0 y1 y2 y3,LeO (ident_path.l0 k y0 y1 y2 y3) (ident_path.l0 (k+1) y0 y1 y2 y3))
 |0=> fun _ _ _ _ r h=> by simp[ident_path.l0]at h
 |k+1=> by
  have ih0:=ident_path.mono_l k
  ·intro y0 y1 y2 y3
   unfold ident_path.l0
   repeat' with_reducible first|apply ih0|apply LeO.refl|apply LeO.none|refine LeO.ite ?_ ?_|refine LeO.bind ?_ (fun _=> ?_)
theorem ident_path.mono:∀ a0 a1 a2 k,LeO (ident_path.f k a0 a1 a2) (ident_path.f (k+1) a0 a1 a2):=by
 intro a0 a1 a2 k
 have ih0:=ident_path.mono_l k
 unfold ident_path.f
 repeat' with_reducible first|apply ih0|apply LeO.refl|apply LeO.none|refine LeO.ite ?_ ?_|refine LeO.bind ?_ (fun _=> ?_)
set_option maxHeartbeats 8000000 in
set_option maxRecDepth 100000 in
theorem ident_path.calls (k:Nat) (aG:Int) (aN:Int) (aU:Option Addr) (c0_2:Nat) (aA:List (S46)) (r:List Int) (w:World) (aV:Kd.C k46 w aU aA.length aA) (aW:aA.length≤c0_2) (h:ident_path.f k aG aN aA=some r) :
  Calls Tryz.prog 60 #[.agg #[i6 aG,i6 aN,.slice aU aA.length c0_2]] w fun e w'=> ∃ v0_:Value,e=.returned (v0_)∧Kd.R (Kd.int .i64) 3 w' w.heap.size (fun _=> True) v0_ r∧Below w.heap.size w w':=by
 have hu24:=Tryz.underlying24
 have hu46:=Tryz.underlying46
 have bF:=am aV
 have bS:=am aW
 clear aV aW
 have HB:=am (Below.refl w.heap.size w)
 unfold ident_path.f at h
 have H:=h
 clear h
 obtain⟨bG,hy103⟩:∃ y_:List Int,y_=(([aG]:List Int)):=⟨_,rfl⟩
 replace H:(ident_path.l0 k bG aA (aA.length:Int) 0)=some r:=by(rw[hy103];with_reducible exact H)
 have Ny103:=am hy103
 clear hy103
 have H':=am H
 clear H
 go_enter Tryz.func60,Tryz.ntmps60
 go_wp2_with (first|((with_reducible refine gate_dst (N:=1) rfl ?_);refine box_event ?hg (N:=1) ?hd (cs:=#[i6 aG,i6 aN,.slice aU aA.length c0_2]) (t:=24) ?hr ?_;(case hd=> rfl);(case hg=> rfl);(case hr=> (go_simp;done));intro aK hg w2 hbox hb;have aC:=am (hbox);have bT:=am (gsz hg HB.out);have bU:=am (gsz hg HB.out);replace HB:=am (below_step (HB.out) hb);clear hb hbox hg;obtain⟨aX,aY,aZ⟩:=bc3 aC.out;obtain⟨a3,a4,a5⟩:=bf3 aC.out)|((with_reducible refine gate_dst (N:=8) rfl ?_);refine Kd.R_lit (Kd.int .i64) _ 3 ?hg (N:=8) ?hd (xs:=([aG]:List Int)) (inner:=[i6 aG]) (ok:=fun _=> True) (okp:=fun _=> True) ?hr ?hp (fun _ hk=> hk) trivial (Below.refl _ _) (Nat.le_refl _) (by simp) ?_;(case hd=> rfl);(case hg=> rfl);(case hr=> (go_simp;done));(case hp=> exact(Reps.one (show Kd.M (Kd.int .i64) _ _ _ aG [i6 aG]from rfl) (Reps.none _ _)));intro v104 w4 ho5 hb hg_ hnew_;clear hg_ hnew_;(rw[← Ny103.out]at ho5);have bH:=am (Kd.R_lower ho5 (below_size (HB.out)));replace aC:=am (blk_below aC.out hb);replace HB:=am (below_step (HB.out) hb);clear hb ho5;obtain⟨a6,a7,a8⟩:=bc3 aC.out;obtain⟨a9,bA,bB⟩:=bf3 aC.out))
 go_loopg [3,12] k (fun kq v3 v12 w'=> ∃ (aQ:List Int) (aD:Int),v12=i6 aD∧Aside0 (ident_path.l0 kq aQ aA (aA.length:Int) aD=some r)∧Aside0 (kq≤k)∧Aside0 (Kd.R (Kd.int .i64) 3 w' w.heap.size (fun _=> True) v3 aQ)∧Aside0 (w'.heap[aK]?=some (.cells #[i6 aG,i6 aN,(.slice aU aA.length c0_2)] 24 (0,0)))∧Aside0 (Below w.heap.size w w'))
 case atStart=> exact⟨(bG),(0),(by rfl),H',⟨Nat.le_refl _⟩,⟨by exact bH.out⟩,⟨by exact aC.out⟩,⟨HB.out⟩⟩
 case round=>
  clear H'
  clear aX aY aZ a6 a7 a8 a3 a4 a5 a9 bA bB
  obtain⟨aQ,aD,rfl,HA,bV,HO_3,aC,HB⟩:=hrel
  cases gk with
  |zero=> exact absurd HA.out (by simp[ident_path.l0])
  |succ k1=>
   have H:=HA.out
   clear HA
   simp only[ident_path.l0]at H
   by_cases c7:aD< (aA.length:Int)
   ·rw[if_pos c7]at H
    have bQ:=decide_eq_true c7
    clear c7
    by_cases c8:0≤aD
    ·rw[if_pos c8]at H
     have bZ:=decide_eq_true c8
     clear c8
     by_cases c9:aD< (aA.length:Int)
     ·rw[if_pos c9]at H
      have b0:=decide_eq_true c9
      clear c9
      by_cases c10:aQ.length< 17592186044416
      ·rw[if_pos c10]at H
       have LMc10:=am c10
       clear c10
       obtain⟨bI,hy108⟩:∃ y_:List Int,y_=(aQ++[(rd_T46 aA aD).f1]):=⟨_,rfl⟩
       replace H:(ident_path.l0 k1 bI aA (aA.length:Int) (wrap64 (aD+1)))=some r:=by(rw[hy108];with_reducible exact H)
       have Ny108:=am hy108
       clear hy108
       have H':=am H
       clear H
       have bC:0≤(aD:Int):=of_decide_eq_true (by(with_reducible assumption))
       have bD:aD< (aA.length:Int):=of_decide_eq_true (by(with_reducible assumption))
       obtain⟨bJ,e106,aI,aJ⟩:=at_T46 bF.out aD bC bD
       cases e106
       try replace aI:=(HB.out.cell (World.block_lt_of_cell? w _ aI)).trans aI
       try replace aJ:=(HB.out.cell (World.block_lt_of_cell? w _ aJ)).trans aJ
       replace bC:=eq_true bC
       replace bD:=eq_true bD
       go_wp2_with (first|((with_reducible refine gate_dst (N:=5) rfl ?_);refine box_event ?hg (N:=5) ?hd (cs:=#[i6 0,i6 0]) (t:=46) ?hr ?_;(case hd=> rfl);(case hg=> rfl);(case hr=> (go_simp;done));intro aT hg b1 hbox hb;replace HO_3:=am (Kd.R_below (by exact HO_3.out) hb);have aH:=am (hbox);have bW:=am (gsz hg HB.out);have aM:=am (gsz hg HB.out);replace HB:=am (below_step (HB.out) hb);have aE:=am ((by rw[hg];exact Nat.ne_of_lt (blk_lt aC.out):aK≠aT));have aR:=am ((by rw[hg];exact Nat.ne_of_gt (blk_lt aC.out):aT≠aK));replace aC:=am (blk_below aC.out hb);clear hb hbox hg;have bX:=aR.out;have bY:=aE.out;obtain⟨bL,bM⟩:=bc2 aH.out;obtain⟨bN,bO⟩:=bf2 aH.out)|((with_reducible refine gate_builtin (b:=.append) (xs:=#[.tmp 16,.tmp 19]) rfl ?_);at_builtin;refine Kd.R_append (Kd.int .i64) (w0:=w) w.heap.size rfl (.tmp 16) (.tmp 19) 54 3 (i6 0) 8 rfl Tryz.underlying54 info3 rfl (by decide) (by omega) u3 aQ ((rd_T46 aA aD).f1) [i6 ((rd_T46 aA aD).f1)] (fun _=> True) (fun _=> False) rfl (by(go_simp;done)) ?aP (fun _ hk=> hk.elim) ?aF ?aO ?aB ?aS ?aL ?_;(case aP=> exact rfl);(case aB=> exact(below_set (below_set HB.out aM.out) aM.out));(case aF=> exact(fun _ _=> trivial));(case aO=> exact(by exact Kd.R_mono (rf (rf (Kd.R_types HO_3.out aH.out (by decide)))) (fun _ hk=> trivial)));(case aS=> exact(below_size (below_set (below_set HB.out aM.out) aM.out)));(case aL=> have:=LMc10.out;omega);intro v109 b2 ho hb hg hat;rw[← Ny108.out]at ho;replace aC:=am (blk_grown (g:=aK) (o:=.cells #[i6 aG,i6 aN,.slice (some bJ) aA.length c0_2] 24 (0,0)) (by refine blk_far ?_ aE.out _;refine blk_far ?_ aE.out _;exact aC.out) hg (Kd.R_ne HO_3.out aC.out (by decide)));replace aH:=am (blk_grown (g:=aT) (o:=.cells #[i6 ((rd_T46 aA aD).f0),i6 ((rd_T46 aA aD).f1)] 46 (0,0)) (bp (bp aH.out 0) 1) hg (Kd.R_ne HO_3.out aH.out (by decide)));replace HB:=am (hb);have bK:=am (ho);clear HO_3;clear ho hb hg hat))
       go_roundg k1
       case measure=> have:=bV.out;omega
       case rel=> exact⟨(bI),(wrap64 (aD+1)),(by rfl),H',⟨by have:=bV.out;omega⟩,⟨by exact bK.out⟩,⟨by exact aC.out⟩,⟨HB.out⟩⟩
      ·rw[if_neg c10]at H
       exact absurd H (by simp)
     ·rw[if_neg c9]at H
      exact absurd H (by simp)
    ·rw[if_neg c8]at H
     exact absurd H (by simp)
   ·rw[if_neg c7]at H
    have bQ:=decide_eq_false c7
    clear c7
    obtain rfl:=Option.some.inj H
    go_wp2
    go_ret
    exact⟨_,by rfl,by exact HO_3.out,HB.out⟩

/-! ### ident_Check: function 41 -/
def ident_Check.badStep (x:S46):Bool:=decide (x.f0< 0)||decide (x.f0≥8)
set_option maxHeartbeats 4000000 in
set_option maxRecDepth 100000 in
theorem ident_Check.step_calls (x:S46) (w:World):Calls Tryz.prog 62 #[.agg #[i6 x.f0,i6 x.f1]] w fun e w'=> e=.returned (.bool (ident_Check.badStep x))∧Below w.heap.size w w':=by
 obtain⟨a,b⟩:=x
 unfold ident_Check.badStep
 have hu55:=Tryz.underlying46
 have HB:=am (Below.refl w.heap.size w)
 go_enter Tryz.func62,Tryz.ntmps62
 go_wp2_with (first|((with_reducible refine gate_dst (N:=1) rfl ?_);refine box_event ?hg (N:=1) ?hd (cs:=#[i6 a,i6 b]) (t:=46) ?hr ?_;(case hd=> rfl);(case hg=> rfl);(case hr=> (go_simp;done));intro bM hg bO hbox hb;have aL:=am (below_step (HB.out) hb);have aM:=am (gsz hg HB.out);have aI:=am hbox;clear HB;have HB:=aL;have bP:=aM;clear aL aM;clear hb hbox hg;obtain⟨aB,aC,aD,aE⟩:=be2 aI.out))
 ·go_ret
  exact⟨rfl,(HB.out)⟩
 ·go_ret
  rename_i h
  exact⟨by simp[h],(HB.out)⟩
def ident_Check.idxB:List S46→Nat→Int
 |[],_=> -1
 |x :: l,i=> if ident_Check.badStep x=true then(i:Int)else ident_Check.idxB l (i+1)
set_option maxHeartbeats 4000000 in
set_option maxRecDepth 100000 in
theorem ident_Check.idx_calls (A:Option Addr) (c:Nat) (l:List S46) (w:World) (hr:Kd.C k46 w A l.length l) (hc:l.length≤c):Calls Tryz.prog 71 #[.slice A l.length c,.func (.func 62) #[] #[]] w fun e w'=> e=.returned (i6 (ident_Check.idxB l 0))∧Below w.heap.size w w':=by
 have hu55:=Tryz.underlying46
 have hl:l.length≤9223372036854775807:=hr.2.1
 have HR:=am hr
 have HC:=am hc
 clear hr hc
 have HS:=am (fun x W=> ident_Check.step_calls x W)
 go_enter Tryz.func71,Tryz.ntmps71
 go_wp2
 go_loopg [8] l.length (fun kq v8 w'=> ∃ (i:Nat),v8=i6 (i:Int)∧Aside0 (kq=l.length - i)∧Aside0 (i≤l.length)∧Aside0 (ident_Check.idxB (l.drop i) i=ident_Check.idxB l 0)∧Aside0 (Below w.heap.size w w'))
 case atStart=> exact⟨0,rfl,⟨rfl⟩,⟨Nat.zero_le _⟩,⟨rfl⟩,⟨Below.refl _ _⟩⟩
 case round=>
  obtain⟨i,rfl,HK,HI,HA,HB⟩:=hrel
  by_cases hlt:i< l.length
  ·have d1:decide ((i:Int)< (l.length:Int))=true:=decide_eq_true (by omega)
   have d2:(0≤(i:Int))=True:=eq_true (by omega)
   have d3:((i:Int)< (l.length:Int))=True:=eq_true (by omega)
   obtain⟨ad,e,bQ,bR⟩:=at_T46 HR.out (i:Int) (by omega) (by omega)
   cases e
   try replace bQ:=(HB.out.cell (World.block_lt_of_cell? w _ bQ)).trans bQ
   try replace bR:=(HB.out.cell (World.block_lt_of_cell? w _ bR)).trans bR
   rw[Int.toNat_natCast]at bQ bR
   have hi1:IntKind.i64.wrap ((i:Int)+1)=((i+1:Nat):Int):=by rw[i64_w,IntWalk.wrap64_in _ (by omega)];omega
   have hi2:wrap64 ((i:Int)+1)=((i+1:Nat):Int):=by rw[IntWalk.wrap64_in _ (by omega)];omega
   have hA:=HA.out
   rw[List.drop_eq_getElem_cons hlt]at hA
   have hg:rd_T46 l (i:Int)=l[i]:=by unfold rd_T46;rw[Int.toNat_natCast,List.getD_eq_getElem?_getD,List.getElem?_eq_getElem hlt];rfl
   rw[← hg,show ident_Check.idxB (rd_T46 l (i:Int) :: l.drop (i+1)) i=if ident_Check.badStep (rd_T46 l (i:Int))=true then(i:Int)else ident_Check.idxB (l.drop (i+1)) (i+1)from rfl]at hA
   obtain⟨R,hR⟩:∃ R,R=ident_Check.idxB l 0:=⟨_,rfl⟩
   rw[← hR]at hA
   have HX:=am hR
   clear hR
   have HLT:=am hlt
   clear hg HA hlt
   go_wp2_with (first|(go_at_call 62;refine(HS.out (rd_T46 l (i:Int)) _).mono ?_;rintro e bT ⟨rfl,hb⟩;replace HB:=am (below_step (HB.out) hb);clear hb))
   ·rename_i hb
    go_ret
    rw[if_pos hb]at hA
    exact⟨by rw[← HX.out,← hA];rfl,(HB.out)⟩
   ·rename_i hb
    have hlt:=HLT.out
    rw[if_neg (by simpa using hb)]at hA
    obtain⟨k,hk⟩:∃ k,l.length - i=k+1:=⟨l.length - i - 1,by omega⟩
    go_roundg k
    case measure=> have:=HK.out;omega
    case rel=> exact⟨i+1,by rw[show((i+1:Nat):Int)=(i:Int)+1 by omega],⟨by omega⟩,⟨by omega⟩,⟨by rw[hA,HX.out]⟩,HB⟩
  ·have d1:decide ((i:Int)< (l.length:Int))=false:=decide_eq_false (by omega)
   have hA:=HA.out
   rw[List.drop_of_length_le (by omega)]at hA
   go_wp2
   go_ret
   exact⟨by rw[← hA];rfl,(HB.out)⟩
theorem ident_Check.idxB_any:∀ (l:List S46) (i:Nat),decide (ident_Check.idxB l i≥0)=l.any ident_Check.badStep
 |[],i=> rfl
 |x :: l,i=> by
  unfold ident_Check.idxB
  rw[List.any_cons]
  cases h:ident_Check.badStep x with
  |true=> rw[if_pos rfl,decide_eq_true (by omega)];rfl
  |false=> rw[if_neg (by decide),ident_Check.idxB_any l (i+1)];rfl
set_option maxHeartbeats 4000000 in
set_option maxRecDepth 100000 in
theorem ident_Check.has_calls (A:Option Addr) (c:Nat) (l:List S46) (w:World) (hr:Kd.C k46 w A l.length l) (hc:l.length≤c):Calls Tryz.prog 61 #[.slice A l.length c,.func (.func 62) #[] #[]] w fun e w'=> e=.returned (.bool (l.any ident_Check.badStep))∧Below w.heap.size w w':=by
 rw[← ident_Check.idxB_any l 0]
 have HI:=am (ident_Check.idx_calls A c l w hr hc)
 have HB:=am (Below.refl w.heap.size w)
 clear hr hc
 go_enter Tryz.func61,Tryz.ntmps61
 go_wp2_with (first|(go_at_call 71;refine(HI.out).mono ?_;rintro e bT ⟨rfl,hb⟩;replace HB:=am (below_step (HB.out) hb);clear hb))
 go_ret
 exact⟨rfl,(HB.out)⟩
def ident_Check.pathOk:List Int→List Int→Bool
 |_,[]=> true
 |t,o :: l=> decide (0≤o) && (decide (o< 16) && (!decide (o ∈ t) && ident_Check.pathOk (t++[o]) l))
def ident_Check.metA (t:List Int):List Value:=(List.range 16).map fun(j:Nat)=> Value.bool (decide ((j:Int) ∈ t))
theorem ident_Check.metA_get (t:List Int) (o:Int) (h0:0≤o) (h1:o< 16):(ident_Check.metA t)[o.toNat]?=some (.bool (decide (o ∈ t))):=by
 unfold ident_Check.metA
 rw[List.getElem?_map,List.getElem?_range (by omega)]
 simp only[Option.map_some]
 rw[Int.toNat_of_nonneg h0]
theorem ident_Check.metA_set (t:List Int) (o:Int) (h0:0≤o) (h1:o< 16):(ident_Check.metA t).set o.toNat (.bool true)=ident_Check.metA (t++[o]):=by
 unfold ident_Check.metA
 apply List.ext_getElem?
 intro j
 by_cases hj:j< 16
 ·by_cases e:o.toNat=j
  ·subst e
   rw[List.getElem?_set_self (by simp;omega),List.getElem?_map,List.getElem?_range (by omega)]
   simp[Int.toNat_of_nonneg h0]
  ·rw[List.getElem?_set_ne e,List.getElem?_map,List.getElem?_map,List.getElem?_range hj]
   simp only[Option.map_some,List.mem_append,List.mem_singleton]
   congr 3
   have:(j:Int)≠o:=by omega
   simp[this]
 ·rw[List.getElem?_eq_none (by simp;omega),List.getElem?_eq_none (by simp;omega)]
theorem ident_Check.path_loop:∀ (d:Nat) (out:List Int) (y:List S46) (i:Nat),y.length≤100000→out.length≤200000→y.length - i=d→i≤y.length→out.length=i+1→ident_path.l0 (d+1) out y (y.length:Int) (i:Int)=some (out++(y.drop i).map (·.f1))
 |0,out,y,i,hy,ho,hd,hi,hoi=> by
  rw[ident_path.l0,if_neg (by omega),List.drop_of_length_le (by omega)]
  simp
 |d+1,out,y,i,hy,ho,hd,hi,hoi=> by
  have hg:rd_T46 y (i:Int)=y[i]'(by omega):=by unfold rd_T46;rw[Int.toNat_natCast,List.getD_eq_getElem?_getD,List.getElem?_eq_getElem (by omega)];rfl
  have hw:wrap64 ((i:Int)+1)=((i+1:Nat):Int):=by rw[IntWalk.wrap64_in _ (by omega)];omega
  rw[ident_path.l0,if_pos (by omega),if_pos (by omega),if_pos (by omega),if_pos (by omega),hw,hg,ident_Check.path_loop d _ y (i+1) hy (by rw[List.length_append];simp only[List.length_cons,List.length_nil];omega) (by omega) (by omega) (by rw[List.length_append];simp only[List.length_cons,List.length_nil];omega),List.drop_eq_getElem_cons (by omega:i< y.length),List.map_cons,List.append_assoc]
  rfl
theorem ident_Check.path_eq (a b:Int) (l:List S46) (h:l.length≤100000):ident_path.f (l.length+1) a b l=some (a :: l.map (·.f1)):=by
 unfold ident_path.f
 exact ident_Check.path_loop l.length [a] l 0 h (by simp) rfl (Nat.zero_le _) rfl
def ident_Check.f (a b:Int) (l:List S46):Option Int:=some (if b< 1 then 30 else if b> 999999 then 30 else if l.length> 4 then 30 else if ident_Check.pathOk [] (a :: l.map (·.f1))=true then(if l.any ident_Check.badStep=true then 30 else 0)else 30)
set_option maxHeartbeats 8000000 in
set_option maxRecDepth 100000 in
theorem ident_Check.calls (aK aF:Int) (aJ:Option Addr) (c0_2:Nat) (aA:List S46) (r:Int) (w:World) (bK:Kd.C k46 w aJ aA.length aA) (bL:aA.length≤c0_2) (h:ident_Check.f aK aF aA=some r) :
  Calls Tryz.prog 41 #[.agg #[i6 aK,i6 aF,.slice aJ aA.length c0_2]] w fun e w'=> e=.returned (i6 r)∧Below w.heap.size w w':=by
 have hu24:=Tryz.underlying24
 have hu55:=Tryz.underlying46
 have HR:=am bK
 have HC:=am bL
 clear bK bL
 have HB:=am (Below.refl w.heap.size w)
 unfold ident_Check.f at h
 by_cases c1:aF< 1
 ·rw[if_pos c1]at h
  obtain rfl:=Option.some.inj h
  have c1b:=decide_eq_true c1
  go_enter Tryz.func41,Tryz.ntmps41
  go_wp2_with (first|((with_reducible refine gate_dst (N:=1) rfl ?_);refine box_event ?hg (N:=1) ?hd (cs:=#[i6 aK,i6 aF,.slice aJ aA.length c0_2]) (t:=24) ?hr ?_;(case hd=> rfl);(case hg=> rfl);(case hr=> (go_simp;done));intro bM hg bO hbox hb;have aL:=am (below_step (HB.out) hb);have aM:=am (gsz hg HB.out);have aI:=am hbox;clear HB;have HB:=aL;have bP:=aM;clear aL aM;clear hb hbox hg;obtain⟨aB,aC,aD,aE,aG,aH⟩:=be3 aI.out))
  go_ret
  exact⟨rfl,(HB.out)⟩
 rw[if_neg c1]at h
 by_cases c2:aF> 999999
 ·rw[if_pos c2]at h
  obtain rfl:=Option.some.inj h
  have c1b:=decide_eq_false c1
  have c2b:decide (999999< aF)=true:=decide_eq_true c2
  go_enter Tryz.func41,Tryz.ntmps41
  go_wp2_with (first|((with_reducible refine gate_dst (N:=1) rfl ?_);refine box_event ?hg (N:=1) ?hd (cs:=#[i6 aK,i6 aF,.slice aJ aA.length c0_2]) (t:=24) ?hr ?_;(case hd=> rfl);(case hg=> rfl);(case hr=> (go_simp;done));intro bM hg bO hbox hb;have aL:=am (below_step (HB.out) hb);have aM:=am (gsz hg HB.out);have aI:=am hbox;clear HB;have HB:=aL;have bP:=aM;clear aL aM;clear hb hbox hg;obtain⟨aB,aC,aD,aE,aG,aH⟩:=be3 aI.out))
  go_ret
  exact⟨rfl,(HB.out)⟩
 rw[if_neg c2]at h
 by_cases c3:aA.length> 4
 ·rw[if_pos c3]at h
  obtain rfl:=Option.some.inj h
  have c1b:=decide_eq_false c1
  have c2b:decide (999999< aF)=false:=decide_eq_false c2
  have c3b:decide (4< (aA.length:Int))=true:=decide_eq_true (by omega)
  go_enter Tryz.func41,Tryz.ntmps41
  go_wp2_with (first|((with_reducible refine gate_dst (N:=1) rfl ?_);refine box_event ?hg (N:=1) ?hd (cs:=#[i6 aK,i6 aF,.slice aJ aA.length c0_2]) (t:=24) ?hr ?_;(case hd=> rfl);(case hg=> rfl);(case hr=> (go_simp;done));intro bM hg bO hbox hb;have aL:=am (below_step (HB.out) hb);have aM:=am (gsz hg HB.out);have aI:=am hbox;clear HB;have HB:=aL;have bP:=aM;clear aL aM;clear hb hbox hg;obtain⟨aB,aC,aD,aE,aG,aH⟩:=be3 aI.out))
  go_ret
  exact⟨rfl,(HB.out)⟩
 rw[if_neg c3]at h
 have c1b:=decide_eq_false c1
 have c2b:decide (999999< aF)=false:=decide_eq_false c2
 have c3b:decide (4< (aA.length:Int))=false:=decide_eq_false (by omega)
 have HP:=am (ident_Check.path_eq aK aF aA (by omega))
 obtain⟨r0,hr0⟩:∃ r0,r0=aK :: aA.map (·.f1):=⟨_,rfl⟩
 rw[← hr0]at h HP
 have HLEN:=am (show r0.length=aA.length+1 by rw[hr0];simp)
 clear hr0
 go_enter Tryz.func41,Tryz.ntmps41
 go_wp2_with (first|((with_reducible refine gate_dst (N:=1) rfl ?_);refine box_event ?hg (N:=1) ?hd (cs:=#[i6 aK,i6 aF,.slice aJ aA.length c0_2]) (t:=24) ?hr ?_;(case hd=> rfl);(case hg=> rfl);(case hr=> (go_simp;done));intro bM hg bO hbox hb;have aL:=am (below_step (HB.out) hb);have aM:=am (gsz hg HB.out);have aI:=am hbox;clear HB;have HB:=aL;have bP:=aM;clear aL aM;clear hb hbox hg;obtain⟨aB,aC,aD,aE,aG,aH⟩:=be3 aI.out)|((with_reducible refine gate_dst (N:=3) rfl ?_);refine box_event ?hg (N:=3) ?hd (cs:=#[.bool false,.bool false,.bool false,.bool false,.bool false,.bool false,.bool false,.bool false,.bool false,.bool false,.bool false,.bool false,.bool false,.bool false,.bool false,.bool false]) (t:=101) ?hr ?_;(case hd=> rfl);(case hg=> rfl);(case hr=> (go_simp;done));intro bS hg bU hbox hb;have aL:=am (below_step (HB.out) hb);have aM:=am (gsz hg HB.out);have NE1_3:bM≠bS:=(by rw[hg];exact Nat.ne_of_lt (blk_lt aI.out));have NE3_1:=Ne.symm NE1_3;have m1_:=am (blk_below aI.out hb);have aZ:=am hbox;clear HB;have HB:=aL;have bV:=aM;clear aL aM;clear hb hbox hg;clear aI aB aC aD aE aG aH;have aI:=m1_;clear m1_;obtain⟨aB,aC,aD,aE,aG,aH⟩:=be3 aI.out;obtain⟨a0,a1,a2,a3,a4,a5,a6,a7,a8,a9,bA,bB,bC,bD,bE,bF,bG,bH,bI,bJ,aN,aO,aP,aQ,aR,aS,aT,aU,aV,aW,aX,aY⟩:=be16 aZ.out)|(go_at_call 60;refine(ident_path.calls (aA.length+1) aK aF aJ c0_2 aA r0 _ (Kd.C_below HR.out (HB.out)) HC.out HP.out).mono ?_;rintro e bW ⟨v4,rfl,hO4,hb⟩;have aL:=am (below_step (HB.out) hb);have m1_:=am (blk_below aI.out hb);have m3_:=am (blk_below aZ.out hb);obtain⟨A4,c4,rfl,hl4,_⟩:=Kd.R_reads hO4;have bN:=am hO4;have HL4:=am hl4;clear hO4 hl4;clear HB;have HB:=aL;clear aL hb;clear aI aB aC aD aE aG aH;have aI:=m1_;clear m1_;obtain⟨aB,aC,aD,aE,aG,aH⟩:=be3 aI.out;clear aZ a0 a1 a2 a3 a4 a5 a6 a7 a8 a9 bA bB bC bD bE bF bG bH bI bJ aN aO aP aQ aR aS aT aU aV aW aX aY;have aZ:=m3_;clear m3_;obtain⟨a0,a1,a2,a3,a4,a5,a6,a7,a8,a9,bA,bB,bC,bD,bE,bF,bG,bH,bI,bJ,aN,aO,aP,aQ,aR,aS,aT,aU,aV,aW,aX,aY⟩:=be16 aZ.out))
 clear a0 a1 a2 a3 a4 a5 a6 a7 a8 a9 bA bB bC bD bE bF bG bH bI bJ aN aO aP aQ aR aS aT aU aV aW aX aY
 go_loopg [23] r0.length (fun kq v23 w'=> ∃ (i:Nat),v23=i6 (i:Int)∧Aside0 (kq=r0.length - i)∧Aside0 (i≤r0.length)∧Aside0 (ident_Check.pathOk (r0.take i) (r0.drop i)=ident_Check.pathOk [] r0)∧Aside0 (Kd.R (Kd.int .i64) 3 w' bU.heap.size (fun _=> True) (.slice A4 r0.length c4) r0)∧Aside0 (w'.heap[bM]?=some (.cells #[i6 aK,i6 aF,.slice aJ aA.length c0_2] 24 (0,0)))∧Aside0 (w'.heap[bS]?=some (.cells (ident_Check.metA (r0.take i)).toArray 101 (0,0)))∧Aside0 (Below w.heap.size w w'))
 case atStart=> exact⟨0,rfl,⟨rfl⟩,⟨Nat.zero_le _⟩,⟨rfl⟩,⟨bN.out⟩,⟨aI.out⟩,⟨aZ.out⟩,⟨HB.out⟩⟩
 case round=>
  clear bN aI aZ HB aB aD aG aC aE aH
  obtain⟨i,rfl,HK,HI,HA,bN,aI,aZ,HB⟩:=hrel
  by_cases hlt:i< r0.length
  ·have d1:decide ((i:Int)< (r0.length:Int))=true:=decide_eq_true (by omega)
   have d2:(0≤(i:Int))=True:=eq_true (by omega)
   have d3:((i:Int)< (r0.length:Int))=True:=eq_true (by omega)
   obtain⟨ad,e,hx⟩:=Kd.at_int (Kd.R_reads' bN.out).2.2 (i:Int) (by omega) (by omega)
   rw[Int.toNat_natCast]at hx
   subst e
   have hi2:wrap64 ((i:Int)+1)=((i+1:Nat):Int):=by have:=HLEN.out;rw[IntWalk.wrap64_in _ (by omega)];omega
   have hA:=HA.out
   rw[List.drop_eq_getElem_cons hlt]at hA
   have hg:rd r0 (i:Int)=r0[i]:=by unfold rd;rw[Int.toNat_natCast,List.getD_eq_getElem?_getD,List.getElem?_eq_getElem hlt];rfl
   have ht:r0.take (i+1)=r0.take i++[rd r0 (i:Int)]:=by rw[List.take_succ_eq_append_getElem hlt,hg]
   rw[← hg]at hA
   generalize rd r0 (i:Int)=o at hA hx ht
   clear hg
   by_cases e1:o< 0
   ·have e1b:=decide_eq_true e1
    have hp:ident_Check.pathOk [] r0=false:=by rw[← hA];simp[ident_Check.pathOk,show ¬ 0≤o by omega]
    rw[hp,if_neg (by decide)]at h
    obtain rfl:=Option.some.inj h
    clear HA hlt hp hA
    go_wp2
    go_ret
    exact⟨rfl,(HB.out)⟩
   by_cases e2:o≥16
   ·have e1b:=decide_eq_false e1
    have e2b:decide (16≤o)=true:=decide_eq_true e2
    have hp:ident_Check.pathOk [] r0=false:=by rw[← hA];simp[ident_Check.pathOk,show ¬ o< 16 by omega]
    rw[hp,if_neg (by decide)]at h
    obtain rfl:=Option.some.inj h
    clear HA hlt hp hA
    go_wp2
    go_ret
    exact⟨rfl,(HB.out)⟩
   ·have e1b:=decide_eq_false e1
    have e2b:decide (16≤o)=false:=decide_eq_false e2
    have e3:(0≤o)=True:=eq_true (by omega)
    have e4:(o< 16)=True:=eq_true (by omega)
    have hm:wr.cell? ⟨bS,o.toNat,none⟩=some (.bool (decide (o ∈ r0.take i))):=(blk_cell aZ.out _).trans (by simpa using ident_Check.metA_get (r0.take i) o (by omega) (by omega))
    have hmf:=blk_frozen aZ.out o.toNat
    have hset:=ident_Check.metA_set (r0.take i) o (by omega) (by omega)
    by_cases e5:o ∈ r0.take i
    ·rw[decide_eq_true e5]at hm
     have hp:ident_Check.pathOk [] r0=false:=by rw[← hA];simp[ident_Check.pathOk,e5]
     rw[hp,if_neg (by decide)]at h
     obtain rfl:=Option.some.inj h
     clear HA hlt hp hA
     go_wp2
     go_ret
     exact⟨rfl,(HB.out)⟩
    ·rw[decide_eq_false e5]at hm
     have hA2:ident_Check.pathOk (r0.take (i+1)) (r0.drop (i+1))=ident_Check.pathOk [] r0:=by
      rw[← hA,ht]
      simp[ident_Check.pathOk,e5,show 0≤o by omega,show o< 16 by omega]
     have HLT:=am hlt
     clear HA hlt hA
     go_wp2
     obtain⟨k,hk⟩:∃ k,r0.length - i=k+1:=⟨r0.length - i - 1,by have:=HLT.out;omega⟩
     go_roundg k
     case measure=> have:=HK.out;omega
     case rel=> exact⟨i+1,by rw[show((i+1:Nat):Int)=(i:Int)+1 by omega],⟨by omega⟩,⟨by have:=HLT.out;omega⟩,⟨hA2⟩,⟨Kd.R_set bN.out aZ.out (by decide) _ _⟩,⟨blk_far aI.out NE1_3 _⟩,⟨by rw[ht,← hset];exact blk_put aZ.out _ _ (by simp)⟩,⟨below_set HB.out bV.out⟩⟩
  ·have d1:decide ((i:Int)< (r0.length:Int))=false:=decide_eq_false (by omega)
   have hA:=HA.out
   rw[List.drop_of_length_le (by omega)]at hA
   have hp:ident_Check.pathOk [] r0=true:=by rw[← hA];simp[ident_Check.pathOk]
   rw[hp,if_pos rfl]at h
   have aG:wr.cell? ⟨bM,2,none⟩=some (.slice aJ aA.length c0_2):=(blk_cell aI.out 2).trans rfl
   have d3:((i:Int)< (r0.length:Int))=False:=eq_false (by omega)
   by_cases hany:aA.any ident_Check.badStep=true
   ·rw[if_pos hany]at h
    obtain rfl:=Option.some.inj h
    clear hA HA hp
    go_wp2_with (first|(go_at_call 61;refine(ident_Check.has_calls aJ c0_2 aA _ (Kd.C_below HR.out (HB.out)) HC.out).mono ?_;rw[hany];rintro e w7 ⟨rfl,hb⟩;replace HB:=am (below_step (HB.out) hb);clear hb))
    go_ret
    exact⟨rfl,(HB.out)⟩
   ·rw[if_neg hany]at h
    rw[Bool.not_eq_true]at hany
    obtain rfl:=Option.some.inj h
    clear hA HA hp
    go_wp2_with (first|(go_at_call 61;refine(ident_Check.has_calls aJ c0_2 aA _ (Kd.C_below HR.out (HB.out)) HC.out).mono ?_;rw[hany];rintro e w7 ⟨rfl,hb⟩;replace HB:=am (below_step (HB.out) hb);clear hb))
    go_ret
    exact⟨rfl,(HB.out)⟩

/-! ### api_Hop: function 59 -/
def api_Hop.f (l:List S46):Option (List S46):=if l.length< 8796093022208 then some l else none
set_option maxHeartbeats 4000000 in
set_option maxRecDepth 100000 in
theorem api_Hop.calls (A0:Option Addr) (c0:Nat) (l0:List S46) (r:List S46) (w:World) (hr0:Kd.C k46 w A0 l0.length l0) (hc0:l0.length≤c0) (h:api_Hop.f l0=some r) :
  Calls Tryz.prog 59 #[.slice A0 l0.length c0] w fun e w'=> ∃ v0_:Value,e=.returned (v0_)∧Kd.R k46 46 w' w.heap.size (fun _=> True) v0_ r∧Below w.heap.size w w':=by
 unfold api_Hop.f at h
 by_cases hl:l0.length< 8796093022208
 ·rw[if_pos hl]at h
  obtain rfl:=Option.some.inj h
  have HR:=am hr0
  have HL:=am hl
  have HB:=am (Below.refl w.heap.size w)
  clear h hr0 hl
  have hq:∀ (A:Option Addr) (n c:Nat) (W:World),(binOp .eql 22 (.slice A n c) (.slice none 0 0)).run Tryz.prog W=.ok (.bool A.isNone) W:=fun A n c W=> Lib.run_eql_slice_nil W 22 46 A n c 0 0 Tryz.underlying22
  cases A0 with
  |none=>
   have hz:l0=[]:=by
    by_cases e:0< l0.length
    ·obtain⟨ad,e2,_⟩:=HR.out.2.2 e
     cases e2
    ·exact List.eq_nil_of_length_eq_zero (by omega)
   subst hz
   clear HL HR
   go_enter Tryz.func59,Tryz.ntmps59
   go_wp2
   go_ret
   exact⟨_,rfl,Kd.R_nil _ _ _ _ _,(HB.out)⟩
  |some ad=>
   go_enter Tryz.func59,Tryz.ntmps59
   go_wp2_with (first|((with_reducible refine gate_dst (N:=5) rfl ?_);refine Kd.R_lit k46 _ 46 ?hg (N:=5) ?hd (xs:=([]:List (S46))) (inner:=[]) (ok:=fun _=> True) (okp:=fun _=> True) ?hr ?hp (fun _ hk=> hk) trivial (Below.refl _ _) (Nat.le_refl _) (by simp) ?_;(case hd=> rfl);(case hg=> rfl);(case hr=> (go_simp;done));(case hp=> exact(Reps.none _ _));intro v1 w1 ho hb hg_ hnew_;clear hg_ hnew_;have HO:=am (Kd.R_lower ho (below_size (HB.out)));have aA:=am (below_step (HB.out) hb);clear HB;have HB:=aA;clear aA hb ho)|((with_reducible refine gate_builtin (b:=.append) (xs:=#[.tmp 5,.tmp 6]) rfl ?_);at_builtin;refine Kd.R_append_rows k46 (w0:=w) w.heap.size rfl (.tmp 5) (.tmp 6) 22 46 (.agg #[(i6 0),(i6 0)]) 16 rfl Tryz.underlying22 info46 rfl (by decide) (by omega) v1 [] l0 _ _ _ (fun _=> True) (fun _=> False) rfl rfl ?aO ?aR (fun _ _ h=> h) (fun _ h=> h.elim) ?aF ?aB ?aS ?aL ?_;(case aR=> exact(Kd.C_below HR.out (HB.out)));(case aB=> exact(HB.out));(case aF=> exact(fun _ _=> trivial));(case aO=> exact(by exact HO.out));(case aS=> exact(below_size (HB.out)));(case aL=> have:=HL.out;simp only[List.length_nil];omega);intro v2 w2 ho hb hg hat;have aC:=am ho;have HB2:=am hb;clear hb ho hg hat))
   go_ret
   exact⟨v2,rfl,by simpa using aC.out,HB2.out⟩
 ·rw[if_neg hl]at h;cases h

/-! ### ident_Parent: function 38 -/
def ident_Parent.f (aJ:Int) (aK:Int) (aC:List (S46)):Option (Int×Int×(List (S46))×Int×Bool):=(ident_Check.f aJ aK aC).bind fun aU=> (if aU=0 then(if(wrap64 ((aC.length:Int) - 1))< 0 then(some (0,0,([]:List (S46)),0,false))else(if 0≤(wrap64 ((aC.length:Int) - 1))then(if(wrap64 ((aC.length:Int) - 1))≤(aC.length:Int)then((api_Hop.f (aC.take ((wrap64 ((aC.length:Int) - 1)):Int).toNat)).bind fun aP=> (if(wrap64 ((aC.length:Int) - 1))< (aC.length:Int)then(some (aJ,aK,aP,(rd_T46 aC (wrap64 ((aC.length:Int) - 1))).f0,true))else(none)))else(none))else(none)))else(some (0,0,([]:List (S46)),0,false)))
def ident_Parent.T4:Bool×List (List Nat×List Nat):=(true,[([],[]),([0],[0]),([],[]),([2],[2]),([],[]),([4],[4]),([],[]),([5,6],[5,6]),([7],[7]),([1,3,8],[1,3,8]),([],[]),([10],[10]),([],[]),([11,12],[11,12]),([13],[13]),([14],[14]),([9,8,0,1,2,3,4,5,6,7,8,9],[9]),([15,16,0,1,2,3,4,5,6,7,8,9,10,11,12,13,14,15,16],[15]),([17,0,1,2,3,4,5,6,7,8,9,10,11,12,13,14,15,16,17],[])])
def ident_Parent.B4:List Nat:=[0,1,0,4,0,16,0,112,240,511,0,1024,0,7168,15360,31744,1023,131071,262143]
theorem ident_Parent.tab4:rtab .any (opsOf Tryz.f38 4)=ident_Parent.T4:=by kernel_rfl
theorem ident_Parent.bits4:waitsOk ident_Parent.T4.2 ident_Parent.B4=true:=by kernel_rfl
set_option maxHeartbeats 8000000 in
set_option maxRecDepth 100000 in
theorem ident_Parent.calls (aJ:Int) (aK:Int) (aO:Option Addr) (c0_2:Nat) (aC:List (S46)) (r1:Int) (r2:Int) (r3:List (S46)) (r4:Int) (r5:Bool) (w:World) (aW:Kd.C k46 w aO aC.length aC) (aX:aC.length≤c0_2) (h:ident_Parent.f aJ aK aC=some (r1,r2,r3,r4,r5)) :
  Calls Tryz.prog 38 #[.agg #[i6 aJ,i6 aK,.slice aO aC.length c0_2]] w fun e w'=> ∃ v2_:Value,e=.returned (.tuple #[.agg #[i6 r1,i6 r2,v2_],i6 r4,.bool r5])∧Kd.R k46 46 w' w.heap.size (fun _=> True) v2_ r3∧Below w.heap.size w w':=by
 have hu24:=Tryz.underlying24
 have aQ:=am aW
 have aT:=am aX
 clear aW aX
 have HB:=am (Below.refl w.heap.size w)
 unfold ident_Parent.f at h
 have H:=h
 clear h
 obtain⟨aU,cH,H⟩:=Option.bind_eq_some_iff.mp H
 try dsimp only at H
 have A2:=am cH
 clear cH
 by_cases c3:aU=0
 ·rw[if_pos c3]at H
  have b5:=beq_iff_eq.mpr c3
  have b6:=bne_eq_false_iff_eq.mpr c3
  clear c3
  by_cases c4:(wrap64 ((aC.length:Int) - 1))< 0
  ·rw[if_pos c4]at H
   have a3:=decide_eq_true c4
   clear c4
   simp only[Option.some.injEq,Prod.mk.injEq]at H
   obtain⟨rfl,rfl,rfl,rfl,rfl⟩:=H
   go_enter Tryz.func38,Tryz.ntmps38
   go_wp2_with (first|((with_reducible refine gate_dst (N:=1) rfl ?_);refine box_event ?hg (N:=1) ?hd (cs:=#[i6 aJ,i6 aK,.slice aO aC.length c0_2]) (t:=24) ?hr ?_;(case hd=> rfl);(case hg=> rfl);(case hr=> (go_simp;done));intro aL hg w5 hbox hb;have aB:=am (hbox);have aY:=am (gsz hg HB.out);have aZ:=am (gsz hg HB.out);replace HB:=am (below_step (HB.out) hb);clear hb hbox hg)|((with_reducible refine gate_dst (N:=2) rfl ?_);refine box_event ?hg (N:=2) ?hd (cs:=#[i6 0,i6 0,.slice none 0 0]) (t:=24) ?hr ?_;(case hd=> rfl);(case hg=> rfl);(case hr=> (go_simp;done));intro aD hg w6 hbox hb;have aE:=am (hbox);have aH:=am (gsz hg HB.out);have aR:=am (gsz hg HB.out);replace HB:=am (below_step (HB.out) hb);have aA:=am ((by rw[hg];exact Nat.ne_of_lt (blk_lt aB.out):aL≠aD));have aI:=am ((by rw[hg];exact Nat.ne_of_gt (blk_lt aB.out):aD≠aL));replace aB:=am (blk_below aB.out hb);clear hb hbox hg;have cS:=aA.out;have cT:=aI.out;obtain⟨b7,b8,b9⟩:=bc3 aB.out;obtain⟨cA,cB,cC⟩:=bf3 aB.out)|((with_reducible refine gate_callee (f:=41) rfl ?_);refine goesL_ (some 11) rfl rfl Tryz.func41 (by kernel_rfl) rfl #[.agg #[i6 aJ,i6 aK,.slice aO aC.length c0_2]] rfl (by(try simp only[l_m,l_c,l_n]);rfl) ?_;(with_reducible refine(ident_Check.calls aJ aK _ _ aC aU _ ?side1 ?side2 A2.out).mono ?_);(case side1=> exact(Kd.C_below aQ.out HB.out));(case side2=> exact aT.out);rintro e w9 ⟨rfl,hb⟩;refine⟨_,rfl,?_⟩;replace aB:=am (blk_below aB.out hb);replace aE:=am (blk_below aE.out hb);replace HB:=am (below_step (HB.out) hb);clear hb;obtain⟨bA,bB,bC⟩:=bc3 aE.out;obtain⟨bD,bE,bF⟩:=bf3 aE.out))
   refine bodyPost_ret (results_ctt rfl _ _ aD 24 #[i6 0,i6 0,.slice none 0 0] (0,0) _ rfl (bp (bp (bp aE.out 0) 1) 2) Tryz.underlying24 rfl (by kernel_rfl)) rfl ?_
   exact⟨_,by rfl,by exact Kd.R_nil _ _ _ _ _,bs3 HB.out aR.out⟩
  ·rw[if_neg c4]at H
   have a3:=decide_eq_false c4
   clear c4
   obtain⟨ji11,hji11⟩:∃ j_:Int,(wrap64 ((aC.length:Int) - 1))=j_:=⟨_,rfl⟩
   replace H:(if 0≤(ji11)then(if(ji11)≤(aC.length:Int)then((api_Hop.f (aC.take ((ji11):Int).toNat)).bind fun aP=> (if(ji11)< (aC.length:Int)then(some (aJ,aK,aP,(rd_T46 aC (ji11)).f0,true))else(none)))else(none))else(none))=some (r1,r2,r3,r4,r5):=by(rw[hji11]at H;exact H)
   (try rw[hji11]at a3)
   (try rw[hji11]at A2)
   have hji11w:(IntKind.i64.wrap ((aC.length:Int) - 1))=ji11:=(i64_w _).trans hji11
   by_cases a4:0≤(ji11)
   ·rw[if_pos a4]at H
    have cI:=eq_true a4
    have cJ:=decide_eq_true a4
    clear a4
    by_cases a5:(ji11)≤(aC.length:Int)
    ·rw[if_pos a5]at H
     have cK:=eq_true a5
     have cL:=decide_eq_true a5
     clear a5
     obtain⟨aV,hy114⟩:∃ y_:List (S46),y_=(aC.take ((ji11):Int).toNat):=⟨_,rfl⟩
     replace H:((api_Hop.f aV).bind fun aP=> (if(ji11)< (aC.length:Int)then(some (aJ,aK,aP,(rd_T46 aC (ji11)).f0,true))else(none)))=some (r1,r2,r3,r4,r5):=by(rw[hy114];with_reducible exact H)
     have Ny114:=am hy114
     clear hy114
     obtain⟨aP,a6,H⟩:=Option.bind_eq_some_iff.mp H
     try dsimp only at H
     have cU:=am a6
     clear a6
     by_cases bG:(ji11)< (aC.length:Int)
     ·rw[if_pos bG]at H
      have cM:=decide_eq_true bG
      clear bG
      simp only[Option.some.injEq,Prod.mk.injEq]at H
      obtain⟨rfl,rfl,rfl,rfl,rfl⟩:=H
      go_enter Tryz.func38,Tryz.ntmps38
      try go_wp2_with (first|((with_reducible refine gate_dst (N:=1) rfl ?_);refine box_event ?hg (N:=1) ?hd (cs:=#[i6 aJ,i6 aK,.slice aO aC.length c0_2]) (t:=24) ?hr ?_;(case hd=> rfl);(case hg=> rfl);(case hr=> (go_simp;done));intro aL hg cW hbox hb;have aB:=am (hbox);have aY:=am (gsz hg HB.out);have aZ:=am (gsz hg HB.out);replace HB:=am (below_step (HB.out) hb);clear hb hbox hg)|((with_reducible refine gate_dst (N:=2) rfl ?_);refine box_event ?hg (N:=2) ?hd (cs:=#[i6 0,i6 0,.slice none 0 0]) (t:=24) ?hr ?_;(case hd=> rfl);(case hg=> rfl);(case hr=> (go_simp;done));intro aD hg cX hbox hb;have aE:=am (hbox);have aH:=am (gsz hg HB.out);have aR:=am (gsz hg HB.out);replace HB:=am (below_step (HB.out) hb);have aA:=am ((by rw[hg];exact Nat.ne_of_lt (blk_lt aB.out):aL≠aD));have aI:=am ((by rw[hg];exact Nat.ne_of_gt (blk_lt aB.out):aD≠aL));replace aB:=am (blk_below aB.out hb);clear hb hbox hg;have cN:=aA.out;have cO:=aI.out;obtain⟨bH,bI,bJ⟩:=bc3 aB.out;obtain⟨bK,bL,bM⟩:=bf3 aB.out)|((with_reducible refine gate_callee (f:=41) rfl ?_);refine goesL_ (some 11) rfl rfl Tryz.func41 (by kernel_rfl) rfl #[.agg #[i6 aJ,i6 aK,.slice aO aC.length c0_2]] rfl (by(try simp only[l_m,l_c,l_n]);rfl) ?_;(with_reducible refine(ident_Check.calls aJ aK _ _ aC aU _ ?side1 ?side2 A2.out).mono ?_);(case side1=> exact(Kd.C_below aQ.out HB.out));(case side2=> exact aT.out);rintro e cV ⟨rfl,hb⟩;refine⟨_,rfl,?_⟩;replace aB:=am (blk_below aB.out hb);replace aE:=am (blk_below aE.out hb);replace HB:=am (below_step (HB.out) hb);clear hb))
      have a7:=am (blk_drew aB.out)
      have a8:=am (blk_drew aE.out)
      have a9:=am (below_drew1 HB.out)
      clear aB aE HB
      have aB:=a7
      have aE:=a8
      have HB:=a9
      clear a7 a8 a9
      have cD:((ji11):Int)≤((aC.length:Int):Int):=of_decide_eq_true (by(with_reducible assumption))
      obtain⟨i022,hi022,_,hsz22,_⟩:=info_parts info46
      have hroom22:aC.length≤c0_2:=aT.out
      have hC22:Kd.C k46 _ aO aC.length aC:=aQ.out
      have hcut22:=cut_to (P:=Tryz.prog) 22 46 .i64 Tryz.underlying22 hi022 aO aC.length c0_2 (ji11) (of_decide_eq_true (by(with_reducible assumption))) cD hroom22
      have hr22:=Kd.C_take (m:=((ji11):Int).toNat) hC22 (by omega)
      have hy22:aV.length=((ji11):Int).toNat:=(by rw[Ny114.out,List.length_take];omega)
      rw[← Ny114.out]at hr22
      rw[← hy22]at hcut22
      have HR117:=am hr22
      have HC117:=am (show aV.length≤c0_2 from by omega)
      clear hr22 hC22 hroom22 hi022 hsz22
      have KY22:=am hy22
      clear hy22
      replace cD:=eq_true cD
      have a1:0≤((ji11):Int):=of_decide_eq_true (by(with_reducible assumption))
      have a2:(ji11)< (aC.length:Int):=of_decide_eq_true (by(with_reducible assumption))
      obtain⟨aS,e121,aM,aN⟩:=at_T46 aQ.out (ji11) a1 a2
      have aF:=aN
      have aG:=aM
      cases e121
      try replace aM:=(HB.out.cell (World.block_lt_of_cell? w _ aM)).trans aM
      try replace aN:=(HB.out.cell (World.block_lt_of_cell? w _ aN)).trans aN
      replace a1:=eq_true a1
      replace a2:=eq_true a2
      refine start_ (n:=19) (S:=fun w'=> w'.cell? ⟨aL,0,none⟩=some (i6 aJ)∧w'.cell? ⟨aL,1,none⟩=some (i6 aK)∧w'.cell? ⟨aL,2,none⟩=some (.slice (some aS) aC.length c0_2)∧w'.cell? (aS.add (((ji11)).toNat * 2))=some (i6 ((rd_T46 aC (ji11)).f0))∧w'.cell? ⟨(aS.add (((ji11)).toNat * 2)).block,(aS.add (((ji11)).toNat * 2)).off+1,none⟩=some (i6 ((rd_T46 aC (ji11)).f1))) (ds:=[]) (rl [0,19]) (by kernel_rfl) rfl rfl ⟨(blk_cell aB.out 0).trans rfl,(blk_cell aB.out 1).trans rfl,(blk_cell aB.out 2).trans rfl,((HB.out.cell (World.block_lt_of_cell? w _ aG)).trans aG),((HB.out.cell (World.block_lt_of_cell? w _ aF)).trans aF)⟩ (fun hHeld=> ?_);refine with_tabW ident_Parent.tab4 ident_Parent.bits4 (fun HT_ HW_=> ?_)
      generalize cV.drew=cY at aB aE HB HR117 aM aN hHeld ⊢
      refine pure_ (i:=0) (N:=some 18) (v:=?_) (a':=?_) (rl [1,18]) rfl rfl (any_of HT_.out (by kernel_rfl)) (fun _ _ _ h=> h) (Or.inl ⟨by rfl,?_⟩) ?_ ?_
      rotate_left
      ·intro w'
       go_simp
       with_reducible rfl
      rotate_left
      ·simp only[Act.put,l_a,l_z,l_s,i64_w,i32_w]
       rfl
      refine pure_ (i:=2) (N:=some 20) (v:=?_) (a':=?_) (rl [1,1,1,16]) rfl rfl (any_of HT_.out (by kernel_rfl)) (fun _ _ _ h=> h) (Or.inl ⟨by rfl,?_⟩) ?_ ?_
      rotate_left
      ·intro w'
       go_simp
       with_reducible rfl
      rotate_left
      ·simp only[Act.put,l_a,l_z,l_s,i64_w,i32_w]
       rfl
      refine pure_ (i:=4) (N:=some 22) (v:=?_) (a':=?_) (rl [1,1,1,1,1,14]) rfl rfl (any_of HT_.out (by kernel_rfl)) (fun _ _ _ h=> h) (Or.inl ⟨by rfl,?_⟩) ?_ ?_
      rotate_left
      ·intro w'
       go_simp
       with_reducible rfl
      rotate_left
      ·simp only[Act.put,l_a,l_z,l_s,i64_w,i32_w]
       rfl
      refine pure_ (i:=6) (N:=some 24) (v:=?_) (a':=?_) (rl [1,1,1,1,1,1,1,12]) rfl rfl (any_of HT_.out (by kernel_rfl)) (fun _ _ _ h=> h) (Or.inl ⟨by rfl,?_⟩) ?_ ?_
      rotate_left
      ·intro w'
       go_simp
       with_reducible rfl
      rotate_left
      ·simp only[Act.put,l_a,l_z,l_s,i64_w,i32_w]
       rfl
      refine pure_ (i:=10) (N:=some 28) (v:=?_) (a':=?_) (rl [1,1,1,1,1,1,1,3,1,8]) rfl rfl (any_of HT_.out (by kernel_rfl)) (fun _ _ _ h=> h) (Or.inl ⟨by rfl,?_⟩) ?_ ?_
      rotate_left
      ·intro w'
       go_simp
       with_reducible rfl
      rotate_left
      ·simp only[Act.put,l_a,l_z,l_s,i64_w,i32_w]
       rfl
      refine pure_ (i:=12) (N:=some 30) (v:=?_) (a':=?_) (rl [1,1,1,1,1,1,1,3,1,1,1,6]) rfl rfl (any_of HT_.out (by kernel_rfl)) (fun _ _ _ h=> h) (Or.inl ⟨by rfl,?_⟩) ?_ ?_
      rotate_left
      ·intro w'
       go_simp
       with_reducible rfl
      rotate_left
      ·simp only[Act.put,l_a,l_z,l_s,i64_w,i32_w]
       rfl
      refine take_ (i:=1) (N:=some 19) (v:=?_) (a':=?_) (rl [3,1,1,1,1,3,1,1,1,6]) rfl rfl (take_ofW HT_.out HW_.out (by kernel_rfl)) (fun _ _ _ h=> h) (Or.inl ⟨by rfl,?_⟩) hHeld ?_ ?_
      rotate_left
      ·rintro w' ⟨s0,s1,s2,s3,s4⟩
       go_simp
       with_reducible rfl
      rotate_left
      ·simp only[Act.put,l_a,l_z,l_s,i64_w,i32_w]
       rfl
      refine take_ (i:=3) (N:=some 21) (v:=?_) (a':=?_) (rl [5,1,1,3,1,1,1,6]) rfl rfl (take_ofW HT_.out HW_.out (by kernel_rfl)) (fun _ _ _ h=> h) (Or.inl ⟨by rfl,?_⟩) hHeld ?_ ?_
      rotate_left
      ·rintro w' ⟨s0,s1,s2,s3,s4⟩
       go_simp
       with_reducible rfl
      rotate_left
      ·simp only[Act.put,l_a,l_z,l_s,i64_w,i32_w]
       rfl
      refine take_ (i:=5) (N:=some 23) (v:=?_) (a':=?_) (rl [7,3,1,1,1,6]) rfl rfl (take_ofW HT_.out HW_.out (by kernel_rfl)) (fun _ _ _ h=> h) (Or.inl ⟨by rfl,?_⟩) hHeld ?_ ?_
      rotate_left
      ·rintro w' ⟨s0,s1,s2,s3,s4⟩
       go_simp
       with_reducible rfl
      rotate_left
      ·simp only[Act.put,l_a,l_z,l_s,i64_w,i32_w]
       rfl
      refine pure_ (i:=7) (N:=some 25) (v:=?_) (a':=?_) (rl [8,2,1,1,1,6]) rfl rfl (any_of HT_.out (by kernel_rfl)) (fun _ _ _ h=> h) (Or.inl ⟨by rfl,?_⟩) ?_ ?_
      rotate_left
      ·intro w'
       go_simp
       with_reducible rfl
      rotate_left
      ·simp only[Act.put,l_a,l_z,l_s,i64_w,i32_w]
       rfl
      refine take_ (i:=11) (N:=some 29) (v:=?_) (a':=?_) (rl [8,2,3,6]) rfl rfl (take_ofW HT_.out HW_.out (by kernel_rfl)) (fun _ _ _ h=> h) (Or.inl ⟨by rfl,?_⟩) hHeld ?_ ?_
      rotate_left
      ·rintro w' ⟨s0,s1,s2,s3,s4⟩
       go_simp
       with_reducible rfl
      rotate_left
      ·simp only[Act.put,l_a,l_z,l_s,i64_w,i32_w]
       rfl
      refine pure_ (i:=13) (N:=some 31) (v:=?_) (a':=?_) (rl [8,2,4,5]) rfl rfl (any_of HT_.out (by kernel_rfl)) (fun _ _ _ h=> h) (Or.inl ⟨by rfl,?_⟩) ?_ ?_
      rotate_left
      ·intro w'
       go_simp
       with_reducible rfl
      rotate_left
      ·simp only[Act.put,l_a,l_z,l_s,i64_w,i32_w]
       rfl
      refine pure_ (i:=14) (N:=some 32) (v:=?_) (a':=?_) (rl [8,2,5,4]) rfl rfl (any_of HT_.out (by kernel_rfl)) (fun _ _ _ h=> h) (Or.inl ⟨by rfl,?_⟩) ?_ ?_
      rotate_left
      ·intro w'
       go_simp
       with_reducible rfl
      rotate_left
      ·simp only[Act.put,l_a,l_z,l_s,i64_w,i32_w]
       rfl
      refine take_ (i:=15) (N:=some 33) (v:=?_) (a':=?_) (rl [8,2,6,3]) rfl rfl (take_ofW HT_.out HW_.out (by kernel_rfl)) (fun _ _ _ h=> h) (Or.inl ⟨by rfl,?_⟩) hHeld ?_ ?_
      rotate_left
      ·rintro w' ⟨s0,s1,s2,s3,s4⟩
       go_simp
       with_reducible rfl
      rotate_left
      ·simp only[Act.put,l_a,l_z,l_s,i64_w,i32_w]
       rfl
      refine one_ (i:=8) (N:=some 26) (rl [9,1,6,3]) rfl rfl (one_of HT_.out (by kernel_rfl)) (by decide) (fun K hK=> ?_)
      refine goes_ Tryz.func59 (by kernel_rfl) rfl #[.slice (some aS) aV.length c0_2] (by rfl) rfl rfl (by(try simp only[l_m,l_c,l_n]);rfl) ?_
      with_reducible refine(api_Hop.calls _ _ aV aP _ ?side1 ?side2 cU.out).mono ?_
      (case side1=> exact(Kd.C_below HR117.out HB.out))
      (case side2=> exact HC117.out)
      rintro e cE ⟨v119,rfl,ho0,hb⟩
      refine⟨_,rfl,?_⟩
      have a7:=am (Kd.R_lower ho0 (below_size (HB.out)))
      have a8:=am (blk_below aB.out hb)
      have a9:=am (blk_below aE.out hb)
      have cP:=am (below_step (HB.out) hb)
      clear aB aE HB
      have a0:=a7
      have aB:=a8
      have aE:=a9
      have HB:=cP
      clear a7 a8 a9 cP
      clear hb
      clear ho0
      obtain⟨cF,cG,eo24⟩:=Kd.R_slice a0.out
      (subst eo24)
      refine hK.out _ _ ⟨(blk_cell aB.out 0).trans rfl,(blk_cell aB.out 1).trans rfl,(blk_cell aB.out 2).trans rfl,((HB.out.cell (World.block_lt_of_cell? w _ aG)).trans aG),((HB.out.cell (World.block_lt_of_cell? w _ aF)).trans aF)⟩ (fun hHeld=> ?_)
      clear hK K
      refine norm_ (a':=?_) ?_ ?_
      rotate_left
      ·show Act.put _ (some 26) _=_
       simp only[Act.put,l_a,l_z,l_s,i64_w,i32_w]
       rfl
      refine pure_ (i:=9) (N:=some 27) (v:=?_) (a':=?_) (rl [16,3]) rfl rfl (any_of HT_.out (by kernel_rfl)) (fun _ _ _ h=> h) (Or.inl ⟨by rfl,?_⟩) ?_ ?_
      rotate_left
      ·intro w'
       go_simp
       with_reducible rfl
      rotate_left
      ·simp only[Act.put,l_a,l_z,l_s,i64_w,i32_w]
       rfl
      refine one_ (i:=16) (N:=none) (rl [17,2]) rfl rfl (one_of HT_.out (by kernel_rfl)) (by decide) (fun K hK=> ?_)
      have hs25:cE.cell? ⟨aD,0,none⟩=some (i6 0):=(blk_cell aE.out 0).trans rfl
      have hfs25:=blk_frozen aE.out 0
      have bN:=aA.out
      have bO:=aI.out
      have hs26:cE.cell? ⟨aD,1,none⟩=some (i6 0):=(blk_cell aE.out 1).trans rfl
      have hfs26:=blk_frozen aE.out 1
      have bP:=aA.out
      have bQ:=aI.out
      have hs27:cE.cell? ⟨aD,2,none⟩=some (.slice none 0 0):=(blk_cell aE.out 2).trans rfl
      have hfs27:=blk_frozen aE.out 2
      have bR:=aA.out
      have bS:=aI.out
      refine skip_ (w1:=?_) (by rfl) rfl ?_ ?_
      rotate_left
      ·go_simp
       rfl
      refine hK.out _ _ ⟨((cell_far (p:=⟨aD,_,none⟩) aA.out _).trans (((cell_far (p:=⟨aD,_,none⟩) aA.out _).trans (((cell_far (p:=⟨aD,_,none⟩) aA.out _).trans (hHeld.1)))))),((cell_far (p:=⟨aD,_,none⟩) aA.out _).trans (((cell_far (p:=⟨aD,_,none⟩) aA.out _).trans (((cell_far (p:=⟨aD,_,none⟩) aA.out _).trans (hHeld.2.1)))))),((cell_far (p:=⟨aD,_,none⟩) aA.out _).trans (((cell_far (p:=⟨aD,_,none⟩) aA.out _).trans (((cell_far (p:=⟨aD,_,none⟩) aA.out _).trans (hHeld.2.2.1)))))),((cell_far (p:=⟨aD,_,none⟩) (by first|exact Nat.ne_of_lt (Nat.lt_of_lt_of_le (by have:=World.block_lt_of_cell? _ _ aG;exact this) aH.out)|(rw[add_block];exact Nat.ne_of_lt (Nat.lt_of_lt_of_le (by have:=World.block_lt_of_cell? _ _ aG;first|rwa [add_block]at this|exact this) aH.out))|(show(Addr.add _ _).block≠_;rw[add_block];exact Nat.ne_of_lt (Nat.lt_of_lt_of_le (by have:=World.block_lt_of_cell? _ _ aG;first|rwa [add_block]at this|exact this) aH.out))|(dsimp only;exact Nat.ne_of_lt (Nat.lt_of_lt_of_le (by have:=World.block_lt_of_cell? _ _ aG;first|rwa [add_block]at this|exact this) aH.out))) _).trans (((cell_far (p:=⟨aD,_,none⟩) (by first|exact Nat.ne_of_lt (Nat.lt_of_lt_of_le (by have:=World.block_lt_of_cell? _ _ aG;exact this) aH.out)|(rw[add_block];exact Nat.ne_of_lt (Nat.lt_of_lt_of_le (by have:=World.block_lt_of_cell? _ _ aG;first|rwa [add_block]at this|exact this) aH.out))|(show(Addr.add _ _).block≠_;rw[add_block];exact Nat.ne_of_lt (Nat.lt_of_lt_of_le (by have:=World.block_lt_of_cell? _ _ aG;first|rwa [add_block]at this|exact this) aH.out))|(dsimp only;exact Nat.ne_of_lt (Nat.lt_of_lt_of_le (by have:=World.block_lt_of_cell? _ _ aG;first|rwa [add_block]at this|exact this) aH.out))) _).trans (((cell_far (p:=⟨aD,_,none⟩) (by first|exact Nat.ne_of_lt (Nat.lt_of_lt_of_le (by have:=World.block_lt_of_cell? _ _ aG;exact this) aH.out)|(rw[add_block];exact Nat.ne_of_lt (Nat.lt_of_lt_of_le (by have:=World.block_lt_of_cell? _ _ aG;first|rwa [add_block]at this|exact this) aH.out))|(show(Addr.add _ _).block≠_;rw[add_block];exact Nat.ne_of_lt (Nat.lt_of_lt_of_le (by have:=World.block_lt_of_cell? _ _ aG;first|rwa [add_block]at this|exact this) aH.out))|(dsimp only;exact Nat.ne_of_lt (Nat.lt_of_lt_of_le (by have:=World.block_lt_of_cell? _ _ aG;first|rwa [add_block]at this|exact this) aH.out))) _).trans (hHeld.2.2.2.1)))))),((cell_far (p:=⟨aD,_,none⟩) (by first|exact Nat.ne_of_lt (Nat.lt_of_lt_of_le (by have:=World.block_lt_of_cell? _ _ aF;exact this) aH.out)|(rw[add_block];exact Nat.ne_of_lt (Nat.lt_of_lt_of_le (by have:=World.block_lt_of_cell? _ _ aF;first|rwa [add_block]at this|exact this) aH.out))|(show(Addr.add _ _).block≠_;rw[add_block];exact Nat.ne_of_lt (Nat.lt_of_lt_of_le (by have:=World.block_lt_of_cell? _ _ aF;first|rwa [add_block]at this|exact this) aH.out))|(dsimp only;exact Nat.ne_of_lt (Nat.lt_of_lt_of_le (by have:=World.block_lt_of_cell? _ _ aF;first|rwa [add_block]at this|exact this) aH.out))) _).trans (((cell_far (p:=⟨aD,_,none⟩) (by first|exact Nat.ne_of_lt (Nat.lt_of_lt_of_le (by have:=World.block_lt_of_cell? _ _ aF;exact this) aH.out)|(rw[add_block];exact Nat.ne_of_lt (Nat.lt_of_lt_of_le (by have:=World.block_lt_of_cell? _ _ aF;first|rwa [add_block]at this|exact this) aH.out))|(show(Addr.add _ _).block≠_;rw[add_block];exact Nat.ne_of_lt (Nat.lt_of_lt_of_le (by have:=World.block_lt_of_cell? _ _ aF;first|rwa [add_block]at this|exact this) aH.out))|(dsimp only;exact Nat.ne_of_lt (Nat.lt_of_lt_of_le (by have:=World.block_lt_of_cell? _ _ aF;first|rwa [add_block]at this|exact this) aH.out))) _).trans (((cell_far (p:=⟨aD,_,none⟩) (by first|exact Nat.ne_of_lt (Nat.lt_of_lt_of_le (by have:=World.block_lt_of_cell? _ _ aF;exact this) aH.out)|(rw[add_block];exact Nat.ne_of_lt (Nat.lt_of_lt_of_le (by have:=World.block_lt_of_cell? _ _ aF;first|rwa [add_block]at this|exact this) aH.out))|(show(Addr.add _ _).block≠_;rw[add_block];exact Nat.ne_of_lt (Nat.lt_of_lt_of_le (by have:=World.block_lt_of_cell? _ _ aF;first|rwa [add_block]at this|exact this) aH.out))|(dsimp only;exact Nat.ne_of_lt (Nat.lt_of_lt_of_le (by have:=World.block_lt_of_cell? _ _ aF;first|rwa [add_block]at this|exact this) aH.out))) _).trans (hHeld.2.2.2.2))))))⟩ (fun hHeld=> ?_)
      clear hK K
      refine pure_ (i:=17) (N:=some 3) (v:=?_) (a':=?_) (rl [18,1]) rfl rfl (any_of HT_.out (by kernel_rfl)) (fun _ _ _ h=> h) (Or.inl ⟨by rfl,?_⟩) ?_ ?_
      rotate_left
      ·intro w'
       go_simp
       with_reducible rfl
      rotate_left
      ·simp only[Act.put,l_a,l_z,l_s,i64_w,i32_w]
       rfl
      refine pure_ (i:=18) (N:=some 4) (v:=?_) (a':=?_) (rl [19]) rfl rfl (any_of HT_.out (by kernel_rfl)) (fun _ _ _ h=> h) (Or.inl ⟨by rfl,?_⟩) ?_ ?_
      rotate_left
      ·intro w'
       go_simp
       with_reducible rfl
      rotate_left
      ·simp only[Act.put,l_a,l_z,l_s,i64_w,i32_w]
       rfl
      refine done_ (done_of HT_.out (by kernel_rfl)) ?_
      try go_wp2
      refine bodyPost_ret (results_ctt rfl _ _ aD 24 #[i6 aJ,i6 aK,.slice cF aP.length cG] (0,0) _ rfl (bp (bp (bp aE.out 0) 1) 2) Tryz.underlying24 rfl (by kernel_rfl)) rfl ?_
      exact⟨_,by first|rfl|(simp[errW_none,errW_some]<;> rfl)|(simp only[← hji11];first|rfl|(simp[errW_none,errW_some]<;> rfl))|(simp[*,errW_none,errW_some]<;> rfl),by exact Kd.R_mono (rf (rf (rf (Kd.R_types a0.out aE.out (by decide))))) (fun _ hk=> trivial),bs3 HB.out aR.out⟩
     ·rw[if_neg bG]at H
      exact absurd H (by simp)
    ·rw[if_neg a5]at H
     exact absurd H (by simp)
   ·rw[if_neg a4]at H
    exact absurd H (by simp)
 ·rw[if_neg c3]at H
  have b5:=beq_eq_false_iff_ne.mpr c3
  have b6:=bne_iff_ne.mpr c3
  simp only[Option.some.injEq,Prod.mk.injEq]at H
  obtain⟨rfl,rfl,rfl,rfl,rfl⟩:=H
  go_enter Tryz.func38,Tryz.ntmps38
  go_wp2_with (first|((with_reducible refine gate_dst (N:=1) rfl ?_);refine box_event ?hg (N:=1) ?hd (cs:=#[i6 aJ,i6 aK,.slice aO aC.length c0_2]) (t:=24) ?hr ?_;(case hd=> rfl);(case hg=> rfl);(case hr=> (go_simp;done));intro aL hg cZ hbox hb;have aB:=am (hbox);have aY:=am (gsz hg HB.out);have aZ:=am (gsz hg HB.out);replace HB:=am (below_step (HB.out) hb);clear hb hbox hg)|((with_reducible refine gate_dst (N:=2) rfl ?_);refine box_event ?hg (N:=2) ?hd (cs:=#[i6 0,i6 0,.slice none 0 0]) (t:=24) ?hr ?_;(case hd=> rfl);(case hg=> rfl);(case hr=> (go_simp;done));intro aD hg c0 hbox hb;have aE:=am (hbox);have aH:=am (gsz hg HB.out);have aR:=am (gsz hg HB.out);replace HB:=am (below_step (HB.out) hb);have aA:=am ((by rw[hg];exact Nat.ne_of_lt (blk_lt aB.out):aL≠aD));have aI:=am ((by rw[hg];exact Nat.ne_of_gt (blk_lt aB.out):aD≠aL));replace aB:=am (blk_below aB.out hb);clear hb hbox hg;have cQ:=aA.out;have cR:=aI.out;obtain⟨bT,bU,bV⟩:=bc3 aB.out;obtain⟨bW,bX,bY⟩:=bf3 aB.out)|((with_reducible refine gate_callee (f:=41) rfl ?_);refine goesL_ (some 11) rfl rfl Tryz.func41 (by kernel_rfl) rfl #[.agg #[i6 aJ,i6 aK,.slice aO aC.length c0_2]] rfl (by(try simp only[l_m,l_c,l_n]);rfl) ?_;(with_reducible refine(ident_Check.calls aJ aK _ _ aC aU _ ?side1 ?side2 A2.out).mono ?_);(case side1=> exact(Kd.C_below aQ.out HB.out));(case side2=> exact aT.out);rintro e c1 ⟨rfl,hb⟩;refine⟨_,rfl,?_⟩;replace aB:=am (blk_below aB.out hb);replace aE:=am (blk_below aE.out hb);replace HB:=am (below_step (HB.out) hb);clear hb;obtain⟨bZ,b0,b1⟩:=bc3 aE.out;obtain⟨b2,b3,b4⟩:=bf3 aE.out))
  refine bodyPost_ret (results_ctt rfl _ _ aD 24 #[i6 0,i6 0,.slice none 0 0] (0,0) _ rfl (bp (bp (bp aE.out 0) 1) 2) Tryz.underlying24 rfl (by kernel_rfl)) rfl ?_
  exact⟨_,by rfl,by exact Kd.R_nil _ _ _ _ _,bs3 HB.out aR.out⟩

/-! ### act_Name: function 40 -/
mutual
def act_Name.j0:Nat→ByteArray→Bool→Option (Bool)
 |0,_,_=> none
 |k+1,x0,a8=> if a8=true then(some false)else(act_Name.l0 k x0 (x0.size:Int) 0)
def act_Name.l0:Nat→ByteArray→Int→Int→Option (Bool)
 |0,_,_,_=> none
 |k+1,x0,aV,aF=> if aF< aV then(if 0≤aF then(if aF< (x0.size:Int)then(if(bt x0 aF)< 97 then(if(bt x0 aF)< 48 then(some false)else(if(bt x0 aF)> 57 then(some false)else(act_Name.l0 k x0 aV (wrap64 (aF+1)))))else(if(bt x0 aF)> 122 then(if(bt x0 aF)< 48 then(some false)else(if(bt x0 aF)> 57 then(some false)else(act_Name.l0 k x0 aV (wrap64 (aF+1)))))else(act_Name.l0 k x0 aV (wrap64 (aF+1)))))else(none))else(none))else(some true)
end
def act_Name.f (k:Nat) (a0:ByteArray):Option (Bool):=if a0.toList=([]:List UInt8)then(act_Name.j0 k a0 true)else(if(a0.size:Int)> 16 then(act_Name.j0 k a0 true)else(if 0< (a0.size:Int)then(if(bt a0 0)< 97 then(act_Name.j0 k a0 true)else(act_Name.j0 k a0 (decide ((bt a0 0)> 122))))else(none)))
theorem act_Name.mono_l:∀ k,(∀ y0 y1,LeO (act_Name.j0 k y0 y1) (act_Name.j0 (k+1) y0 y1))∧(∀ y0 y1 y2,LeO (act_Name.l0 k y0 y1 y2) (act_Name.l0 (k+1) y0 y1 y2))
 |0=> ⟨fun _ _ r h=> by simp[act_Name.j0]at h,fun _ _ _ r h=> by simp[act_Name.l0]at h⟩
 |k+1=> by
  obtain⟨ih0,ih1⟩:=act_Name.mono_l k
  refine⟨?_,?_⟩
  ·intro y0 y1
   unfold act_Name.j0
   repeat' with_reducible first|apply ih0|apply ih1|apply LeO.refl|apply LeO.none|refine LeO.ite ?_ ?_|refine LeO.bind ?_ (fun _=> ?_)
  ·intro y0 y1 y2
   unfold act_Name.l0
   repeat' with_reducible first|apply ih0|apply ih1|apply LeO.refl|apply LeO.none|refine LeO.ite ?_ ?_|refine LeO.bind ?_ (fun _=> ?_)
theorem act_Name.mono:∀ a0 k,LeO (act_Name.f k a0) (act_Name.f (k+1) a0):=by
 intro a0 k
 obtain⟨ih0,ih1⟩:=act_Name.mono_l k
 unfold act_Name.f
 repeat' with_reducible first|apply ih0|apply ih1|apply LeO.refl|apply LeO.none|refine LeO.ite ?_ ?_|refine LeO.bind ?_ (fun _=> ?_)
set_option maxHeartbeats 8000000 in
set_option maxRecDepth 100000 in
theorem act_Name.calls (k:Nat) (a0:ByteArray) (r:Bool) (w:World) (h:act_Name.f k a0=some r) :
  Calls Tryz.prog 40 #[.string a0] w fun e w'=> e=.returned (.bool r)∧Drawn0 w w':=by
 unfold act_Name.f at h
 have H:=h
 clear h
 have HC2:=am H
 clear H
 go_enter Tryz.func40,Tryz.ntmps40
 go_upto_region 1 with(fail)
 go_cut [21] (fun v21 wc=> ∃ (kq:Nat) (aD:Bool),v21=.bool aD∧Aside0 (act_Name.j0 kq a0 aD=some r)∧Aside0 (kq≤k)∧Drawn0 w wc)
 case first=>
  have H:=HC2.out
  clear HC2
  by_cases c3:a0.toList=([]:List UInt8)
  ·rw[if_pos c3]at H
   have aY:=beq_iff_eq.mpr c3
   have aZ:=bne_eq_false_iff_eq.mpr c3
   have a1:a0.toList.isEmpty=true:=by simpa using c3
   clear c3
   (skip)
   have H':=am H
   clear H
   go_wp2
   go_meet
   case rel=> exact⟨_,(true),(by rfl),H',⟨by omega⟩,Drawn0.refl _⟩
  ·rw[if_neg c3]at H
   have aY:=beq_eq_false_iff_ne.mpr c3
   have aZ:=bne_iff_ne.mpr c3
   have a1:a0.toList.isEmpty=false:=by simpa using c3
   (skip)
   by_cases c4:(a0.size:Int)> 16
   ·rw[if_pos c4]at H
    have a2:decide (16< (a0.size:Int))=true:=decide_eq_true c4
    have a3:decide (16< a0.size)=true:=decide_eq_true (by omega)
    clear c4
    have H':=am H
    clear H
    go_wp2
    go_meet
    case rel=> exact⟨_,(true),(by rfl),H',⟨by omega⟩,Drawn0.refl _⟩
   ·rw[if_neg c4]at H
    have a2:decide (16< (a0.size:Int))=false:=decide_eq_false c4
    have a3:decide (16< a0.size)=false:=decide_eq_false (by omega)
    clear c4
    by_cases c5:0< (a0.size:Int)
    ·rw[if_pos c5]at H
     have a9:=decide_eq_true c5
     have bA:decide (0< a0.size)=true:=decide_eq_true (by omega)
     clear c5
     by_cases c7:(bt a0 0)< 97
     ·rw[if_pos c7]at H
      have a4:=decide_eq_true c7
      clear c7
      have H':=am H
      clear H
      have p6:0≤(0:Int):=(by omega)
      have q6:0< a0.size:=(by have:(0:Int)< (a0.size:Int):=of_decide_eq_true (by(with_reducible assumption));omega)
      have bB:∀ h:0< a0.size,((a0[0]'h).toNat:Int)=bt a0 0:=bt_at a0 0
      clear p6
      have bC:(0< (a0.size:Int))=True:=eq_true (of_decide_eq_true (by(with_reducible assumption)))
      replace q6:=eq_true q6
      go_wp2
      go_meet
      case rel=> exact⟨_,(true),(by rfl),H',⟨by omega⟩,Drawn0.refl _⟩
     ·rw[if_neg c7]at H
      have a4:=decide_eq_false c7
      clear c7
      have H':=am H
      clear H
      have p6:0≤(0:Int):=(by omega)
      have q6:0< a0.size:=(by have:(0:Int)< (a0.size:Int):=of_decide_eq_true (by(with_reducible assumption));omega)
      have bB:∀ h:0< a0.size,((a0[0]'h).toNat:Int)=bt a0 0:=bt_at a0 0
      clear p6
      have bC:(0< (a0.size:Int))=True:=eq_true (of_decide_eq_true (by(with_reducible assumption)))
      replace q6:=eq_true q6
      have p8:0≤(0:Int):=(by omega)
      have q8:0< a0.size:=(by have:(0:Int)< (a0.size:Int):=of_decide_eq_true (by(with_reducible assumption));omega)
      have bD:∀ h:0< a0.size,((a0[0]'h).toNat:Int)=bt a0 0:=bt_at a0 0
      clear p8
      have bE:(0< (a0.size:Int))=True:=eq_true (of_decide_eq_true (by(with_reducible assumption)))
      replace q8:=eq_true q8
      go_wp2
      go_meet
      case rel=> exact⟨_,(decide ((bt a0 0)> 122)),(by rfl),H',⟨by omega⟩,Drawn0.refl _⟩
    ·rw[if_neg c5]at H
     exact absurd H (by simp)
 case rest=>
  clear HC2
  obtain⟨kq,aD,rfl,HA,aG,⟨mc1,rfl⟩⟩:=hcut
  cases kq with
  |zero=> exact absurd HA.out (by simp[act_Name.j0])
  |succ a5=>
   have H:=HA.out
   clear HA
   simp only[act_Name.j0]at H
   by_cases c9:aD=true
   ·subst c9
    have H1:(some false)=some r:=by rw[if_pos rfl]at H;exact H
    clear H
    have H:=H1
    clear H1
    obtain rfl:=Option.some.inj H
    go_wp2
    go_ret
    exact⟨by rfl,by repeat(first|exact Drawn0.refl _|apply Drawn0.step)⟩
   ·replace c9:=Bool.eq_false_iff.mpr c9
    subst c9
    have H1:(act_Name.l0 a5 a0 (a0.size:Int) 0)=some r:=by rw[if_neg (show ¬ (false=true)by decide)]at H;exact H
    clear H
    have H:=H1
    clear H1
    have H':=am H
    clear H
    go_wp2
    go_loopg [24] a5 (fun kq v24 w'=> ∃ (aA:Int),v24=i6 aA∧Aside0 (act_Name.l0 kq a0 (a0.size:Int) aA=some r)∧Aside0 (kq≤a5)∧Drawn0 w w')
    case atStart=> exact⟨(0),(by rfl),H',⟨Nat.le_refl _⟩,by repeat(first|exact Drawn0.refl _|apply Drawn0.step)⟩
    case round=>
     clear H'
     obtain⟨aA,rfl,HA,aH,⟨m2,rfl⟩⟩:=hrel
     cases gk with
     |zero=> exact absurd HA.out (by simp[act_Name.l0])
     |succ k2=>
      have H:=HA.out
      clear HA
      simp only[act_Name.l0]at H
      by_cases c10:aA< (a0.size:Int)
      ·rw[if_pos c10]at H
       have aO:=decide_eq_true c10
       clear c10
       by_cases aW:0≤aA
       ·rw[if_pos aW]at H
        have a6:=decide_eq_true aW
        clear aW
        by_cases aX:aA< (a0.size:Int)
        ·rw[if_pos aX]at H
         have a7:=decide_eq_true aX
         clear aX
         by_cases aI:(bt a0 aA)< 97
         ·rw[if_pos aI]at H
          have aP:=decide_eq_true aI
          clear aI
          by_cases aJ:(bt a0 aA)< 48
          ·rw[if_pos aJ]at H
           have aQ:=decide_eq_true aJ
           clear aJ
           obtain rfl:=Option.some.inj H
           have aB:0≤(aA:Int):=of_decide_eq_true (by(with_reducible assumption))
           have aC:aA< (a0.size:Int):=of_decide_eq_true (by(with_reducible assumption))
           have aE:=bt_at a0 aA
           replace aB:=eq_true aB
           replace aC:=eq_true aC
           go_wp2
           go_ret
           exact⟨by rfl,by repeat(first|exact Drawn0.refl _|apply Drawn0.step)⟩
          ·rw[if_neg aJ]at H
           have aQ:=decide_eq_false aJ
           clear aJ
           by_cases aK:(bt a0 aA)> 57
           ·rw[if_pos aK]at H
            have aR:decide (57< (bt a0 aA))=true:=decide_eq_true aK
            clear aK
            obtain rfl:=Option.some.inj H
            have aB:0≤(aA:Int):=of_decide_eq_true (by(with_reducible assumption))
            have aC:aA< (a0.size:Int):=of_decide_eq_true (by(with_reducible assumption))
            have aE:=bt_at a0 aA
            replace aB:=eq_true aB
            replace aC:=eq_true aC
            go_wp2
            go_ret
            exact⟨by rfl,by repeat(first|exact Drawn0.refl _|apply Drawn0.step)⟩
           ·rw[if_neg aK]at H
            have aR:decide (57< (bt a0 aA))=false:=decide_eq_false aK
            clear aK
            have H':=am H
            clear H
            have aB:0≤(aA:Int):=of_decide_eq_true (by(with_reducible assumption))
            have aC:aA< (a0.size:Int):=of_decide_eq_true (by(with_reducible assumption))
            have aE:=bt_at a0 aA
            replace aB:=eq_true aB
            replace aC:=eq_true aC
            go_wp2
            go_roundg k2
            case measure=> have:=aG.out;have:=aH.out;omega
            case rel=> exact⟨(wrap64 (aA+1)),(by rfl),H',⟨by have:=aG.out;have:=aH.out;omega⟩,by repeat(first|exact Drawn0.refl _|apply Drawn0.step)⟩
         ·rw[if_neg aI]at H
          have aP:=decide_eq_false aI
          clear aI
          by_cases aL:(bt a0 aA)> 122
          ·rw[if_pos aL]at H
           have aS:decide (122< (bt a0 aA))=true:=decide_eq_true aL
           clear aL
           by_cases aM:(bt a0 aA)< 48
           ·rw[if_pos aM]at H
            have aT:=decide_eq_true aM
            clear aM
            obtain rfl:=Option.some.inj H
            have aB:0≤(aA:Int):=of_decide_eq_true (by(with_reducible assumption))
            have aC:aA< (a0.size:Int):=of_decide_eq_true (by(with_reducible assumption))
            have aE:=bt_at a0 aA
            replace aB:=eq_true aB
            replace aC:=eq_true aC
            go_wp2
            go_ret
            exact⟨by rfl,by repeat(first|exact Drawn0.refl _|apply Drawn0.step)⟩
           ·rw[if_neg aM]at H
            have aT:=decide_eq_false aM
            clear aM
            by_cases aN:(bt a0 aA)> 57
            ·rw[if_pos aN]at H
             have aU:decide (57< (bt a0 aA))=true:=decide_eq_true aN
             clear aN
             obtain rfl:=Option.some.inj H
             have aB:0≤(aA:Int):=of_decide_eq_true (by(with_reducible assumption))
             have aC:aA< (a0.size:Int):=of_decide_eq_true (by(with_reducible assumption))
             have aE:=bt_at a0 aA
             replace aB:=eq_true aB
             replace aC:=eq_true aC
             go_wp2
             go_ret
             exact⟨by rfl,by repeat(first|exact Drawn0.refl _|apply Drawn0.step)⟩
            ·rw[if_neg aN]at H
             have aU:decide (57< (bt a0 aA))=false:=decide_eq_false aN
             clear aN
             have H':=am H
             clear H
             have aB:0≤(aA:Int):=of_decide_eq_true (by(with_reducible assumption))
             have aC:aA< (a0.size:Int):=of_decide_eq_true (by(with_reducible assumption))
             have aE:=bt_at a0 aA
             replace aB:=eq_true aB
             replace aC:=eq_true aC
             go_wp2
             go_roundg k2
             case measure=> have:=aG.out;have:=aH.out;omega
             case rel=> exact⟨(wrap64 (aA+1)),(by rfl),H',⟨by have:=aG.out;have:=aH.out;omega⟩,by repeat(first|exact Drawn0.refl _|apply Drawn0.step)⟩
          ·rw[if_neg aL]at H
           have aS:decide (122< (bt a0 aA))=false:=decide_eq_false aL
           clear aL
           have H':=am H
           clear H
           have aB:0≤(aA:Int):=of_decide_eq_true (by(with_reducible assumption))
           have aC:aA< (a0.size:Int):=of_decide_eq_true (by(with_reducible assumption))
           have aE:=bt_at a0 aA
           replace aB:=eq_true aB
           replace aC:=eq_true aC
           go_wp2
           go_roundg k2
           case measure=> have:=aG.out;have:=aH.out;omega
           case rel=> exact⟨(wrap64 (aA+1)),(by rfl),H',⟨by have:=aG.out;have:=aH.out;omega⟩,by repeat(first|exact Drawn0.refl _|apply Drawn0.step)⟩
        ·rw[if_neg aX]at H
         exact absurd H (by simp)
       ·rw[if_neg aW]at H
        exact absurd H (by simp)
      ·rw[if_neg c10]at H
       have aO:=decide_eq_false c10
       clear c10
       obtain rfl:=Option.some.inj H
       go_wp2
       go_ret
       exact⟨by rfl,by repeat(first|exact Drawn0.refl _|apply Drawn0.step)⟩

/-! ### note_Check: function 16 -/
def note_Check.c2 (a0:Int) (nm:Bool) (s:ByteArray):Bool:=if a0=1 then !nm else nm||s.toList !=[]
def note_Check.c3 (a0:Int) (a5:Int):Bool:=if a0=6 then !(decide (1≤a5) && decide (a5≤9))else a5 !=0
def note_Check.res (a0:Int) (ch nm:Bool) (s:ByteArray) (a5:Int):Int:=
 if a0< 1 ∨ 7< a0 ∨ ch=false then 130
 else if note_Check.c2 a0 nm s=true then 130
 else if note_Check.c3 a0 a5=true then 130 else 0
def note_Check.f (k:Nat) (a0 a1 a2:Int) (l:List S46) (s:ByteArray) (a5:Int):Option Int:=(ident_Parent.f a1 a2 l).bind fun p=> (act_Name.f k s).bind fun nm=> some (note_Check.res a0 p.2.2.2.2 nm s a5)
theorem note_Check.mono:∀ a0 a1 a2 l s a5 k,LeO (note_Check.f k a0 a1 a2 l s a5) (note_Check.f (k+1) a0 a1 a2 l s a5):=by
 intro a0 a1 a2 l s a5 k
 unfold note_Check.f
 exact LeO.bind (LeO.refl _) (fun _=> LeO.bind (act_Name.mono _ _) (fun _=> LeO.refl _))
set_option maxHeartbeats 8000000 in
set_option maxRecDepth 100000 in
theorem note_Check.calls (k:Nat) (aC:Int) (aR:Int) (aS:Int) (aT:Option Addr) (c0_3:Nat) (aP:List (S46)) (aA:ByteArray) (aB:Int) (r:Int) (w:World) (aV:Kd.C k46 w aT aP.length aP) (aW:aP.length≤c0_3) (h:note_Check.f k aC aR aS aP aA aB=some r) :
  Calls Tryz.prog 16 #[.agg #[i6 aC,i6 aR,i6 aS,.slice aT aP.length c0_3,.string aA,i6 aB]] w fun e w'=> e=.returned (i6 r)∧Below w.heap.size w w':=by
 have hu1:=Tryz.underlying24
 have hu2:=Tryz.underlying46
 have hu3:=Tryz.underlying26
 have HR:=am aV
 have HC:=am aW
 have HB:=am (Below.refl w.heap.size w)
 unfold note_Check.f at h
 obtain⟨⟨p1,p2,p3,p4,p5⟩,hp,h⟩:=Option.bind_eq_some_iff.1 h
 obtain⟨nm,hn,h⟩:=Option.bind_eq_some_iff.1 h
 have HX:=am (show note_Check.res aC p5 nm aA aB=r from Option.some.inj h)
 have HP:=am hp
 have HN:=am hn
 clear aV aW hp hn h
 go_enter Tryz.func16,Tryz.ntmps16
 go_wp2_with (first|((with_reducible refine gate_dst (N:=1) rfl ?_);refine box_event ?hg (N:=1) ?hd (cs:=#[i6 aC,i6 aR,i6 aS,.slice aT aP.length c0_3,.string aA,i6 aB]) (t:=26) ?hr ?_;(case hd=> rfl);(case hg=> rfl);(case hr=> (go_simp;done));intro bA hg bE hbox hb;have aU:=am (below_step (HB.out) hb);have a7:=am (gsz hg HB.out);have aQ:=am hbox;clear HB;have HB:=aU;have bF:=a7;clear aU a7;clear hb hbox hg;obtain⟨aD,aE,aF,aG,aH,aI,aJ,aK,aL,aM,aN,aO⟩:=be6 aQ.out)|(go_at_call 38;refine(ident_Parent.calls aR aS aT c0_3 aP p1 p2 p3 p4 p5 _ (Kd.C_below HR.out (HB.out)) HC.out HP.out).mono ?_;rintro e bG ⟨v8,rfl,hO8,hb⟩;have aU:=am (below_step (HB.out) hb);have m1_:=am (blk_below aQ.out hb);obtain⟨A8,c8,e8⟩:=Kd.R_slice hO8;subst e8;clear hO8 HB;have HB:=aU;clear aU hb;clear aQ aD aE aF aG aH aI aJ aK aL aM aN aO;have aQ:=m1_;clear m1_;obtain⟨aD,aE,aF,aG,aH,aI,aJ,aK,aL,aM,aN,aO⟩:=be6 aQ.out)|((with_reducible refine gate_dst (N:=3) rfl ?_);refine box_event ?hg (N:=3) ?hd (cs:=#[i6 0,i6 0,.slice none 0 0]) (t:=24) ?hr ?_;(case hd=> rfl);(case hg=> rfl);(case hr=> (go_simp;done));intro a8 hg bC hbox hb;have aU:=am (below_step (HB.out) hb);have a7:=am (gsz hg HB.out);have NE1_3:bA≠a8:=(by rw[hg];exact Nat.ne_of_lt (blk_lt aQ.out));have NE3_1:=Ne.symm NE1_3;have m1_:=am (blk_below aQ.out hb);have a9:=am hbox;clear HB;have HB:=aU;have bD:=a7;clear aU a7;clear hb hbox hg;clear aQ aD aE aF aG aH aI aJ aK aL aM aN aO;have aQ:=m1_;clear m1_;obtain⟨aD,aE,aF,aG,aH,aI,aJ,aK,aL,aM,aN,aO⟩:=be6 aQ.out;obtain⟨aX,aY,aZ,a3,a4,a6⟩:=be3 a9.out)|((with_reducible refine gate_store (t:=24) (p:=3) rfl ?_);refine store_event (t:=24) (p:=3) (v:=?vz_1) (w1:=(((bC.setCell ⟨a8,0,none⟩ (i6 p1)).setCell ⟨a8,1,none⟩ (i6 p2)).setCell ⟨a8,2,none⟩ (.slice A8 p3.length c8))) ?hg ?ho ?hn ?hr ?_;(case ho=> rfl);(case hg=> rfl);(case hn=> rfl);(case hr=> (go_simp;done));intro ws3 hw;have aU:Aside0 (Below w.heap.size w ws3):=⟨by rw[hw];exact(bs3 HB.out bD.out)⟩;have bB:Aside0 (ws3.heap[a8]?=some (.cells #[i6 p1,i6 p2,.slice A8 p3.length c8] 24 (0,0))):=⟨by rw[hw];exact(blk_put (cs':=#[i6 p1,i6 p2,.slice A8 p3.length c8]) (blk_put (cs':=#[i6 p1,i6 p2,.slice none 0 0]) (blk_put (cs':=#[i6 p1,i6 0,.slice none 0 0]) a9.out 0 (i6 p1) rfl) 1 (i6 p2) rfl) 2 (.slice A8 p3.length c8) rfl)⟩;have m1_:Aside0 (ws3.heap[bA]?=some (.cells #[i6 aC,i6 aR,i6 aS,.slice aT aP.length c0_3,.string aA,i6 aB] 26 (0,0))):=⟨by rw[hw];exact(blk_far (blk_far (blk_far aQ.out NE1_3 (i6 p1)) NE1_3 (i6 p2)) NE1_3 (.slice A8 p3.length c8))⟩;clear hw HB;have HB:=aU;clear a9 aX aY aZ a3 a4 a6;have a9:=bB;clear aU bB;clear aQ aD aE aF aG aH aI aJ aK aL aM aN aO;have aQ:=m1_;clear m1_;obtain⟨aD,aE,aF,aG,aH,aI,aJ,aK,aL,aM,aN,aO⟩:=be6 aQ.out;obtain⟨aX,aY,aZ,a3,a4,a6⟩:=be3 a9.out))
 go_quiet (fail)
 have d0:=HX.out
 unfold note_Check.res at d0
 by_cases c1:aC< 1
 ·rw[if_pos (.inl c1)]at d0
  have HRR:=am d0.symm;clear d0
  have c1b:=decide_eq_true c1
  (go_wp2_with (fail);go_ret;exact⟨by(obtain⟨hr⟩:=HRR;subst hr;rfl),(pw_below_drewN HB.out _)⟩)
 have c1b:=decide_eq_false c1
 by_cases c2:7< aC
 ·rw[if_pos (.inr (.inl c2))]at d0
  have HRR:=am d0.symm;clear d0
  have c2b:=decide_eq_true c2
  (go_wp2_with (fail);go_ret;exact⟨by(obtain⟨hr⟩:=HRR;subst hr;rfl),(pw_below_drewN HB.out _)⟩)
 have c2b:=decide_eq_false c2
 cases p5 with
 |false=>
  rw[if_pos (.inr (.inr rfl))]at d0
  have HRR:=am d0.symm;clear d0
  (go_wp2_with (fail);go_ret;exact⟨by(obtain⟨hr⟩:=HRR;subst hr;rfl),(pw_below_drewN HB.out _)⟩)
 |true=>
 rw[if_neg (by simp[c1,c2])]at d0
 by_cases e1:aC=1
 ·have e1b:(aC==1)=true:=beq_iff_eq.2 e1
  have e6b:(aC==6)=false:=beq_eq_false_iff_ne.2 (by omega)
  rw[show note_Check.c2 aC nm aA=!nm from if_pos e1,show note_Check.c3 aC aB=(aB !=0)from if_neg (by omega)]at d0
  cases nm with
  |false=>
   rw[if_pos (by simp)]at d0
   have HRR:=am d0.symm;clear d0
   clear c1 c2 e1
   (go_wp2_with (first|(go_at_call 40;(with_reducible refine(act_Name.calls k aA _ _ HN.out).mono ?_);rintro e w' ⟨rfl,⟨nd,rfl⟩⟩));go_ret;exact⟨by(obtain⟨hr⟩:=HRR;subst hr;rfl),(pw_below_drewN HB.out _)⟩)
  |true=>
   rw[if_neg (by decide)]at d0
   clear c1 c2 e1
   by_cases f1:1≤aB
   ·rw[if_pos (bne_iff_ne.2 (by omega))]at d0
    have HRR:=am d0.symm;clear d0
    have f1b:=decide_eq_true f1
    have f3:(aB !=0)=true:=bne_iff_ne.2 (by omega)
    by_cases f2:aB≤9
    ·have f2b:=decide_eq_true f2
     (go_wp2_with (first|(go_at_call 40;(with_reducible refine(act_Name.calls k aA _ _ HN.out).mono ?_);rintro e w' ⟨rfl,⟨nd,rfl⟩⟩));go_ret;exact⟨by(obtain⟨hr⟩:=HRR;subst hr;rfl),(pw_below_drewN HB.out _)⟩)
    ·have f2b:=decide_eq_false f2
     (go_wp2_with (first|(go_at_call 40;(with_reducible refine(act_Name.calls k aA _ _ HN.out).mono ?_);rintro e w' ⟨rfl,⟨nd,rfl⟩⟩));go_ret;exact⟨by(obtain⟨hr⟩:=HRR;subst hr;rfl),(pw_below_drewN HB.out _)⟩)
   ·have f1b:=decide_eq_false f1
    by_cases f2:aB=0
    ·rw[if_neg (by simp[f2])]at d0
     have HRR:=am d0.symm;clear d0
     have f3:(aB !=0)=false:=bne_eq_false_iff_eq.2 f2
     clear f1 f2
     (go_wp2_with (first|(go_at_call 40;(with_reducible refine(act_Name.calls k aA _ _ HN.out).mono ?_);rintro e w' ⟨rfl,⟨nd,rfl⟩⟩));go_ret;exact⟨by(obtain⟨hr⟩:=HRR;subst hr;rfl),(pw_below_drewN HB.out _)⟩)
    ·rw[if_pos (bne_iff_ne.2 f2)]at d0
     have HRR:=am d0.symm;clear d0
     have f3:(aB !=0)=true:=bne_iff_ne.2 f2
     clear f1 f2
     (go_wp2_with (first|(go_at_call 40;(with_reducible refine(act_Name.calls k aA _ _ HN.out).mono ?_);rintro e w' ⟨rfl,⟨nd,rfl⟩⟩));go_ret;exact⟨by(obtain⟨hr⟩:=HRR;subst hr;rfl),(pw_below_drewN HB.out _)⟩)
 have e1b:(aC==1)=false:=beq_eq_false_iff_ne.2 e1
 rw[show note_Check.c2 aC nm aA=(nm||aA.toList !=[])from if_neg e1]at d0
 cases nm with
 |true=>
  rw[if_pos (by simp)]at d0
  have HRR:=am d0.symm;clear d0
  clear c1 c2 e1
  (go_wp2_with (first|(go_at_call 40;(with_reducible refine(act_Name.calls k aA _ _ HN.out).mono ?_);rintro e w' ⟨rfl,⟨nd,rfl⟩⟩));go_ret;exact⟨by(obtain⟨hr⟩:=HRR;subst hr;rfl),(pw_below_drewN HB.out _)⟩)
 |false=>
 by_cases s1:aA.toList=[]
 case neg=>
  rw[if_pos (by simp[s1])]at d0
  have HRR:=am d0.symm;clear d0
  have s2:(aA.toList==[])=false:=beq_eq_false_iff_ne.2 s1
  have s3:(aA.toList !=[])=true:=bne_iff_ne.2 s1
  have s4:aA.toList.isEmpty=false:=by simpa using s1
  clear c1 c2 e1
  (go_wp2_with (first|(go_at_call 40;(with_reducible refine(act_Name.calls k aA _ _ HN.out).mono ?_);rintro e w' ⟨rfl,⟨nd,rfl⟩⟩));go_ret;exact⟨by(obtain⟨hr⟩:=HRR;subst hr;rfl),(pw_below_drewN HB.out _)⟩)
 have s2:(aA.toList==[])=true:=beq_iff_eq.2 s1
 have s3:(aA.toList !=[])=false:=bne_eq_false_iff_eq.2 s1
 have s4:aA.toList.isEmpty=true:=by simpa using s1
 rw[if_neg (by simp[s1])]at d0
 by_cases e6:aC=6
 ·have e6b:(aC==6)=true:=beq_iff_eq.2 e6
  rw[show note_Check.c3 aC aB=!(decide (1≤aB) && decide (aB≤9))from if_pos e6]at d0
  clear c1 c2 e1 e6
  by_cases f1:1≤aB
  ·have f1b:=decide_eq_true f1
   by_cases f2:aB≤9
   ·have f2b:=decide_eq_true f2
    rw[if_neg (by simp[f1,f2])]at d0
    have HRR:=am d0.symm;clear d0
    (go_wp2_with (first|(go_at_call 40;(with_reducible refine(act_Name.calls k aA _ _ HN.out).mono ?_);rintro e w' ⟨rfl,⟨nd,rfl⟩⟩));go_ret;exact⟨by(obtain⟨hr⟩:=HRR;subst hr;rfl),(pw_below_drewN HB.out _)⟩)
   ·have f2b:=decide_eq_false f2
    rw[if_pos (by simp[f1,f2])]at d0
    have HRR:=am d0.symm;clear d0
    (go_wp2_with (first|(go_at_call 40;(with_reducible refine(act_Name.calls k aA _ _ HN.out).mono ?_);rintro e w' ⟨rfl,⟨nd,rfl⟩⟩));go_ret;exact⟨by(obtain⟨hr⟩:=HRR;subst hr;rfl),(pw_below_drewN HB.out _)⟩)
  ·have f1b:=decide_eq_false f1
   rw[if_pos (by simp[f1])]at d0
   have HRR:=am d0.symm;clear d0
   (go_wp2_with (first|(go_at_call 40;(with_reducible refine(act_Name.calls k aA _ _ HN.out).mono ?_);rintro e w' ⟨rfl,⟨nd,rfl⟩⟩));go_ret;exact⟨by(obtain⟨hr⟩:=HRR;subst hr;rfl),(pw_below_drewN HB.out _)⟩)
 ·have e6b:(aC==6)=false:=beq_eq_false_iff_ne.2 e6
  rw[show note_Check.c3 aC aB=(aB !=0)from if_neg e6]at d0
  clear c1 c2 e1 e6
  by_cases f1:1≤aB
  ·rw[if_pos (bne_iff_ne.2 (by omega))]at d0
   have HRR:=am d0.symm;clear d0
   have f1b:=decide_eq_true f1
   have f3:(aB !=0)=true:=bne_iff_ne.2 (by omega)
   by_cases f2:aB≤9
   ·have f2b:=decide_eq_true f2
    (go_wp2_with (first|(go_at_call 40;(with_reducible refine(act_Name.calls k aA _ _ HN.out).mono ?_);rintro e w' ⟨rfl,⟨nd,rfl⟩⟩));go_ret;exact⟨by(obtain⟨hr⟩:=HRR;subst hr;rfl),(pw_below_drewN HB.out _)⟩)
   ·have f2b:=decide_eq_false f2
    (go_wp2_with (first|(go_at_call 40;(with_reducible refine(act_Name.calls k aA _ _ HN.out).mono ?_);rintro e w' ⟨rfl,⟨nd,rfl⟩⟩));go_ret;exact⟨by(obtain⟨hr⟩:=HRR;subst hr;rfl),(pw_below_drewN HB.out _)⟩)
  ·have f1b:=decide_eq_false f1
   by_cases f2:aB=0
   ·rw[if_neg (by simp[f2])]at d0
    have HRR:=am d0.symm;clear d0
    have f3:(aB !=0)=false:=bne_eq_false_iff_eq.2 f2
    clear f1 f2
    (go_wp2_with (first|(go_at_call 40;(with_reducible refine(act_Name.calls k aA _ _ HN.out).mono ?_);rintro e w' ⟨rfl,⟨nd,rfl⟩⟩));go_ret;exact⟨by(obtain⟨hr⟩:=HRR;subst hr;rfl),(pw_below_drewN HB.out _)⟩)
   ·rw[if_pos (bne_iff_ne.2 f2)]at d0
    have HRR:=am d0.symm;clear d0
    have f3:(aB !=0)=true:=bne_iff_ne.2 f2
    clear f1 f2
    (go_wp2_with (first|(go_at_call 40;(with_reducible refine(act_Name.calls k aA _ _ HN.out).mono ?_);rintro e w' ⟨rfl,⟨nd,rfl⟩⟩));go_ret;exact⟨by(obtain⟨hr⟩:=HRR;subst hr;rfl),(pw_below_drewN HB.out _)⟩)

/-! ### ident_Org: function 39 -/
def ident_Org.f (k:Nat) (aC:Int) (aD:Int) (aB:List (S46)):Option (Int):=(ident_Check.f aC aD aB).bind fun aG=> (if aG=0 then((ident_path.f k aC aD aB).bind fun aE=> (if 0≤(wrap64 ((aE.length:Int) - 1))then(if(wrap64 ((aE.length:Int) - 1))< (aE.length:Int)then(some (rd aE (wrap64 ((aE.length:Int) - 1))))else(none))else(none)))else(some (-1)))
theorem ident_Org.mono:∀ a0 a1 a2 k,LeO (ident_Org.f k a0 a1 a2) (ident_Org.f (k+1) a0 a1 a2):=by
 intro a0 a1 a2 k
 unfold ident_Org.f
 repeat' with_reducible first|apply ident_path.mono|apply LeO.refl|apply LeO.none|refine LeO.ite ?_ ?_|refine LeO.bind ?_ (fun _=> ?_)
set_option maxHeartbeats 8000000 in
set_option maxRecDepth 100000 in
theorem ident_Org.calls (k:Nat) (aC:Int) (aD:Int) (aF:Option Addr) (c0_2:Nat) (aB:List (S46)) (r:Int) (w:World) (aJ:Kd.C k46 w aF aB.length aB) (aK:aB.length≤c0_2) (h:ident_Org.f k aC aD aB=some r) :
  Calls Tryz.prog 39 #[.agg #[i6 aC,i6 aD,.slice aF aB.length c0_2]] w fun e w'=> e=.returned (i6 r)∧Below w.heap.size w w':=by
 have hu24:=Tryz.underlying24
 have aH:=am aJ
 have aI:=am aK
 clear aJ aK
 have HB:=am (Below.refl w.heap.size w)
 unfold ident_Org.f at h
 have H:=h
 clear h
 obtain⟨aG,bF,H⟩:=Option.bind_eq_some_iff.mp H
 try dsimp only at H
 have A2:=am bF
 clear bF
 by_cases c3:aG=0
 ·rw[if_pos c3]at H
  have a7:=beq_iff_eq.mpr c3
  have a8:=bne_eq_false_iff_eq.mpr c3
  clear c3
  obtain⟨aE,bG,H⟩:=Option.bind_eq_some_iff.mp H
  try dsimp only at H
  have A4:=am bG
  clear bG
  obtain⟨ji5,hji5⟩:∃ j_:Int,(wrap64 ((aE.length:Int) - 1))=j_:=⟨_,rfl⟩
  replace H:(if 0≤(ji5)then(if(ji5)< (aE.length:Int)then(some (rd aE (ji5)))else(none))else(none))=some r:=by(rw[hji5]at H;exact H)
  (try rw[hji5]at A2)
  (try rw[hji5]at A4)
  have hji5w:(IntKind.i64.wrap ((aE.length:Int) - 1))=ji5:=(i64_w _).trans hji5
  by_cases c6:0≤(ji5)
  ·rw[if_pos c6]at H
   have bI:=decide_eq_true c6
   clear c6
   by_cases c7:(ji5)< (aE.length:Int)
   ·rw[if_pos c7]at H
    have bJ:=decide_eq_true c7
    clear c7
    obtain rfl:=Option.some.inj H
    go_enter Tryz.func39,Tryz.ntmps39
    go_wp2_with (first|((with_reducible refine gate_dst (N:=1) rfl ?_);refine box_event ?hg (N:=1) ?hd (cs:=#[i6 aC,i6 aD,.slice aF aB.length c0_2]) (t:=24) ?hr ?_;(case hd=> rfl);(case hg=> rfl);(case hr=> (go_simp;done));intro aO hg w8 hbox hb;have aA:=am (hbox);have aP:=am (gsz hg HB.out);have aQ:=am (gsz hg HB.out);replace HB:=am (below_step (HB.out) hb);clear hb hbox hg;obtain⟨a9,bA,bB⟩:=bc3 aA.out;obtain⟨bC,bD,bE⟩:=bf3 aA.out)|((with_reducible refine gate_callee (f:=41) rfl ?_);refine goesL_ (some 5) rfl rfl Tryz.func41 (by kernel_rfl) rfl #[.agg #[i6 aC,i6 aD,.slice aF aB.length c0_2]] rfl (by(try simp only[l_m,l_c,l_n]);rfl) ?_;(with_reducible refine(ident_Check.calls aC aD _ _ aB aG _ ?side1 ?side2 A2.out).mono ?_);(case side1=> exact(Kd.C_below aH.out HB.out));(case side2=> exact aI.out);rintro e bM ⟨rfl,hb⟩;refine⟨_,rfl,?_⟩;replace aA:=am (blk_below aA.out hb);replace HB:=am (below_step (HB.out) hb);clear hb;obtain⟨aR,aS,aT⟩:=bc3 aA.out;obtain⟨aU,aV,aW⟩:=bf3 aA.out)|((with_reducible refine gate_callee (f:=60) rfl ?_);refine goesL_ (some 8) rfl rfl Tryz.func60 (by kernel_rfl) rfl #[.agg #[i6 aC,i6 aD,.slice aF aB.length c0_2]] rfl (by(try simp only[l_m,l_c,l_n]);rfl) ?_;(with_reducible refine(ident_path.calls k aC aD _ _ aB aE _ ?side1 ?side2 A4.out).mono ?_);(case side1=> exact(Kd.C_below aH.out HB.out));(case side2=> exact aI.out);rintro e bN ⟨v125,rfl,ho0,hb⟩;refine⟨_,rfl,?_⟩;have aL:=am (Kd.R_lower ho0 (below_size (HB.out)));replace aA:=am (blk_below aA.out hb);replace HB:=am (below_step (HB.out) hb);clear hb ho0;obtain⟨bK,bL,eo13⟩:=Kd.R_slice aL.out;subst eo13;have aM:0≤((ji5):Int):=of_decide_eq_true (by(with_reducible assumption));have aN:(ji5)< (aE.length:Int):=of_decide_eq_true (by(with_reducible assumption));obtain⟨bH,e127,aX⟩:=Kd.at_int (Kd.R_reads' aL.out).2.2 (ji5) aM aN;cases e127;replace aM:=eq_true aM;replace aN:=eq_true aN))
    go_ret
    exact⟨by first|rfl|(simp[errW_none,errW_some]<;> rfl)|(simp only[← hji5];first|rfl|(simp[errW_none,errW_some]<;> rfl))|(simp[*,errW_none,errW_some]<;> rfl),HB.out⟩
   ·rw[if_neg c7]at H
    exact absurd H (by simp)
  ·rw[if_neg c6]at H
   exact absurd H (by simp)
 ·rw[if_neg c3]at H
  have a7:=beq_eq_false_iff_ne.mpr c3
  have a8:=bne_iff_ne.mpr c3
  obtain rfl:=Option.some.inj H
  go_enter Tryz.func39,Tryz.ntmps39
  go_wp2_with (first|((with_reducible refine gate_dst (N:=1) rfl ?_);refine box_event ?hg (N:=1) ?hd (cs:=#[i6 aC,i6 aD,.slice aF aB.length c0_2]) (t:=24) ?hr ?_;(case hd=> rfl);(case hg=> rfl);(case hr=> (go_simp;done));intro aO hg bO hbox hb;have aA:=am (hbox);have aP:=am (gsz hg HB.out);have aQ:=am (gsz hg HB.out);replace HB:=am (below_step (HB.out) hb);clear hb hbox hg;obtain⟨aY,aZ,a3⟩:=bc3 aA.out;obtain⟨a4,a5,a6⟩:=bf3 aA.out)|((with_reducible refine gate_callee (f:=41) rfl ?_);refine goesL_ (some 5) rfl rfl Tryz.func41 (by kernel_rfl) rfl #[.agg #[i6 aC,i6 aD,.slice aF aB.length c0_2]] rfl (by(try simp only[l_m,l_c,l_n]);rfl) ?_;(with_reducible refine(ident_Check.calls aC aD _ _ aB aG _ ?side1 ?side2 A2.out).mono ?_);(case side1=> exact(Kd.C_below aH.out HB.out));(case side2=> exact aI.out);rintro e bP ⟨rfl,hb⟩;refine⟨_,rfl,?_⟩;replace aA:=am (blk_below aA.out hb);replace HB:=am (below_step (HB.out) hb);clear hb))
  go_ret
  exact⟨by rfl,HB.out⟩

/-! ### note_Ends: function 15 -/
def note_Ends.f (k:Nat) (aM:Int) (aG:Int) (aH:Int) (aE:List (S46)) (aN:ByteArray) (aO:Int):Option (Int×Int):=(note_Check.f k aM aG aH aE aN aO).bind fun a8=> (if a8=0 then((ident_Parent.f aG aH aE).bind fun aX=> (if aM≤4 then((ident_Org.f k aX.1 aX.2.1 aX.2.2.1).bind fun bE=> ((ident_Org.f k aG aH aE).bind fun bF=> (some (bE,bF))))else((ident_Org.f k aG aH aE).bind fun bG=> ((ident_Org.f k aX.1 aX.2.1 aX.2.2.1).bind fun bH=> (some (bG,bH))))))else(some ((-1),(-1))))
theorem note_Ends.mono:∀ a0 a1 a2 a3 a4 a5 k,LeO (note_Ends.f k a0 a1 a2 a3 a4 a5) (note_Ends.f (k+1) a0 a1 a2 a3 a4 a5):=by
 intro a0 a1 a2 a3 a4 a5 k
 unfold note_Ends.f
 repeat' with_reducible first|apply ident_Org.mono|apply note_Check.mono|apply LeO.refl|apply LeO.none|refine LeO.ite ?_ ?_|refine LeO.bind ?_ (fun _=> ?_)
set_option maxHeartbeats 8000000 in
set_option maxRecDepth 100000 in
theorem note_Ends.calls (k:Nat) (aM:Int) (aG:Int) (aH:Int) (aP:Option Addr) (c0_3:Nat) (aE:List (S46)) (aN:ByteArray) (aO:Int) (r1:Int) (r2:Int) (w:World) (bA:Kd.C k46 w aP aE.length aE) (bB:aE.length≤c0_3) (h:note_Ends.f k aM aG aH aE aN aO=some (r1,r2)) :
  Calls Tryz.prog 15 #[.agg #[i6 aM,i6 aG,i6 aH,.slice aP aE.length c0_3,.string aN,i6 aO]] w fun e w'=> e=.returned (.tuple #[i6 r1,i6 r2])∧Below w.heap.size w w':=by
 have hu26:=Tryz.underlying26
 have hu24:=Tryz.underlying24
 have aV:=am bA
 have aW:=am bB
 clear bA bB
 have HB:=am (Below.refl w.heap.size w)
 unfold note_Ends.f at h
 have H:=h
 clear h
 obtain⟨a8,eO,H⟩:=Option.bind_eq_some_iff.mp H
 try dsimp only at H
 have A2:=am eO
 clear eO
 by_cases c3:a8=0
 ·rw[if_pos c3]at H
  have d9:=beq_iff_eq.mpr c3
  have eA:=bne_eq_false_iff_eq.mpr c3
  clear c3
  obtain⟨⟨aJ,aK,aI,bI,bJ⟩,eP,H⟩:=Option.bind_eq_some_iff.mp H
  try dsimp only at H
  have A4:=am eP
  clear eP
  by_cases c5:aM≤4
  ·rw[if_pos c5]at H
   have eB:=decide_eq_true c5
   clear c5
   obtain⟨bE,eQ,H⟩:=Option.bind_eq_some_iff.mp H
   try dsimp only at H
   have A6:=am eQ
   clear eQ
   obtain⟨bF,eR,H⟩:=Option.bind_eq_some_iff.mp H
   try dsimp only at H
   have A7:=am eR
   clear eR
   simp only[Option.some.injEq,Prod.mk.injEq]at H
   obtain⟨rfl,rfl⟩:=H
   go_enter Tryz.func15,Tryz.ntmps15
   try go_wp2_with (first|((with_reducible refine gate_dst (N:=1) rfl ?_);refine box_event ?hg (N:=1) ?hd (cs:=#[i6 aM,i6 aG,i6 aH,.slice aP aE.length c0_3,.string aN,i6 aO]) (t:=26) ?hr ?_;(case hd=> rfl);(case hg=> rfl);(case hr=> (go_simp;done));intro aF hg w8 hbox hb;have aA:=am (hbox);have bC:=am (gsz hg HB.out);have bD:=am (gsz hg HB.out);replace HB:=am (below_step (HB.out) hb);clear hb hbox hg;obtain⟨eC,eD,eE,eF,eG,eH⟩:=bc6 aA.out;obtain⟨eI,eJ,eK,eL,eM,eN⟩:=bf6 aA.out)|((with_reducible refine gate_callee (f:=16) rfl ?_);refine goesL_ (some 8) rfl rfl Tryz.func16 (by kernel_rfl) rfl #[.agg #[i6 aM,i6 aG,i6 aH,.slice aP aE.length c0_3,.string aN,i6 aO]] rfl (by(try simp only[l_m,l_c,l_n]);rfl) ?_;(with_reducible refine(note_Check.calls k aM aG aH _ _ aE aN aO a8 _ ?side1 ?side2 A2.out).mono ?_);(case side1=> exact(Kd.C_below aV.out HB.out));(case side2=> exact aW.out);rintro e e0 ⟨rfl,hb⟩;refine⟨_,rfl,?_⟩;replace aA:=am (blk_below aA.out hb);replace HB:=am (below_step (HB.out) hb);clear hb;obtain⟨bP,bQ,bR,bS,bT,bU⟩:=bc6 aA.out;obtain⟨bV,bW,bX,bY,bZ,b0⟩:=bf6 aA.out)|((with_reducible refine gate_callee (f:=38) rfl ?_);refine goesL_ (some 13) rfl rfl Tryz.func38 (by kernel_rfl) rfl #[.agg #[i6 aG,i6 aH,.slice aP aE.length c0_3]] rfl (by(try simp only[l_m,l_c,l_n]);rfl) ?_;(with_reducible refine(ident_Parent.calls aG aH _ _ aE aJ aK aI bI bJ _ ?side1 ?side2 A4.out).mono ?_);(case side1=> exact(Kd.C_below aV.out HB.out));(case side2=> exact aW.out);rintro e e1 ⟨v133,rfl,ho0,hb⟩;refine⟨_,rfl,?_⟩;have aD:=am (Kd.R_lower ho0 (below_size (HB.out)));replace aA:=am (blk_below aA.out hb);replace HB:=am (below_step (HB.out) hb);clear hb ho0)|((with_reducible refine gate_dst (N:=4) rfl ?_);refine box_event ?hg (N:=4) ?hd (cs:=#[i6 0,i6 0,.slice none 0 0]) (t:=24) ?hr ?_;(case hd=> rfl);(case hg=> rfl);(case hr=> (go_simp;done));intro aB hg bK hbox hb;replace aD:=am (Kd.R_below (by exact aD.out) hb);have aC:=am (hbox);have bL:=am (gsz hg HB.out);have a9:=am (gsz hg HB.out);replace HB:=am (below_step (HB.out) hb);have aL:=am ((by rw[hg];exact Nat.ne_of_lt (blk_lt aA.out):aF≠aB));have aQ:=am ((by rw[hg];exact Nat.ne_of_gt (blk_lt aA.out):aB≠aF));replace aA:=am (blk_below aA.out hb);clear hb hbox hg;have eS:=aQ.out;have eT:=aL.out;obtain⟨b1,b2,b3⟩:=bc3 aC.out;obtain⟨b4,b5,b6⟩:=bf3 aC.out;obtain⟨aY,aZ,eo16⟩:=Kd.R_slice aD.out;subst eo16;obtain⟨b7,b8,b9,cA,cB,cC⟩:=bc6 aA.out;obtain⟨cD,cE,cF,cG,cH,cI⟩:=bf6 aA.out))
   have aR:Aside0 (Kd.R k46 46 (((bK.setCell ⟨aB,0,none⟩ (i6 aJ)).setCell ⟨aB,1,none⟩ (i6 aK)).setCell ⟨aB,2,none⟩ (.slice aY aI.length aZ)) w.heap.size (fun _=> True) (.slice aY aI.length aZ) aI):=⟨by exact Kd.R_mono (rf (rf (rf (Kd.R_types aD.out aC.out (by decide))))) (fun _ hk=> trivial)⟩
   have aS:Aside0 ((((bK.setCell ⟨aB,0,none⟩ (i6 aJ)).setCell ⟨aB,1,none⟩ (i6 aK)).setCell ⟨aB,2,none⟩ (.slice aY aI.length aZ)).heap[aF]?=some (.cells #[i6 aM,i6 aG,i6 aH,.slice aP aE.length c0_3,.string aN,i6 aO] 26 (0,0))):=⟨by(iterate 3 refine blk_far ?_ aL.out _);exact aA.out⟩
   have aT:Aside0 ((((bK.setCell ⟨aB,0,none⟩ (i6 aJ)).setCell ⟨aB,1,none⟩ (i6 aK)).setCell ⟨aB,2,none⟩ (.slice aY aI.length aZ)).heap[aB]?=some (.cells #[i6 aJ,i6 aK,.slice aY aI.length aZ] 24 (0,0))):=⟨by exact bp (bp (bp aC.out 0) 1) 2⟩
   have aU:Aside0 (Below w.heap.size w (((bK.setCell ⟨aB,0,none⟩ (i6 aJ)).setCell ⟨aB,1,none⟩ (i6 aK)).setCell ⟨aB,2,none⟩ (.slice aY aI.length aZ))):=⟨bs3 HB.out a9.out⟩
   clear aD
   clear aA
   clear aC
   clear HB
   generalize (((bK.setCell ⟨aB,0,none⟩ (i6 aJ)).setCell ⟨aB,1,none⟩ (i6 aK)).setCell ⟨aB,2,none⟩ (.slice aY aI.length aZ))=eW at aR aS aT aU ⊢
   have aD:=aR
   have aA:=aS
   have aC:=aT
   have HB:=aU
   clear aR aS aT aU
   have aR:=am (Kd.R_drew aD.out)
   have aS:=am (blk_drew aA.out)
   have aT:=am (blk_drew aC.out)
   have aU:=am (below_drew1 HB.out)
   clear aD aA aC HB
   have aD:=aR
   have aA:=aS
   have aC:=aT
   have HB:=aU
   clear aR aS aT aU
   refine start_ (n:=7) (S:=fun w'=> w'.cell? ⟨aB,0,none⟩=some (i6 aJ)∧w'.cell? ⟨aB,1,none⟩=some (i6 aK)∧w'.cell? ⟨aB,2,none⟩=some (.slice aY aI.length aZ)∧w'.cell? ⟨aF,0,none⟩=some (i6 aM)∧w'.cell? ⟨aF,1,none⟩=some (i6 aG)∧w'.cell? ⟨aF,2,none⟩=some (i6 aH)∧w'.cell? ⟨aF,3,none⟩=some (.slice aP aE.length c0_3)∧w'.cell? ⟨aF,4,none⟩=some (.string aN)∧w'.cell? ⟨aF,5,none⟩=some (i6 aO)) (ds:=[]) (rl [0,7]) (by kernel_rfl) rfl rfl (an3 (bc3 aC.out) (bc6 aA.out)) (fun hHeld=> ?_)
   generalize eW.drew=e2 at aD aA aC HB hHeld ⊢
   refine pure_ (i:=2) (N:=some 22) (v:=?_) (a':=?_) (rl [0,2,1,4]) rfl rfl (by kernel_rfl) (fun _ _ _ h=> h) (Or.inl ⟨by rfl,?_⟩) ?_ ?_
   rotate_left
   ·intro w'
    go_simp
    with_reducible rfl
   rotate_left
   ·simp only[Act.put,l_a,l_z,l_s,i64_w,i32_w]
    rfl
   refine take_ (i:=0) (N:=some 20) (v:=?_) (a':=?_) (rl [1,1,1,4]) rfl rfl (by kernel_rfl) (fun _ _ _ h=> h) (Or.inl ⟨by rfl,?_⟩) hHeld ?_ ?_
   rotate_left
   ·rintro w' ⟨s0,s1,s2,s3,s4,s5,s6,s7,s8⟩
    go_simp
    with_reducible rfl
   rotate_left
   ·simp only[Act.put,l_a,l_z,l_s,i64_w,i32_w]
    rfl
   refine take_ (i:=3) (N:=some 23) (v:=?_) (a':=?_) (rl [1,1,2,3]) rfl rfl (by kernel_rfl) (fun _ _ _ h=> h) (Or.inl ⟨by rfl,?_⟩) hHeld ?_ ?_
   rotate_left
   ·rintro w' ⟨s0,s1,s2,s3,s4,s5,s6,s7,s8⟩
    go_simp
    with_reducible rfl
   rotate_left
   ·simp only[Act.put,l_a,l_z,l_s,i64_w,i32_w]
    rfl
   refine one_ (i:=1) (N:=some 21) (rl [4,3]) rfl rfl (by kernel_rfl) (by decide) (fun K hK=> ?_)
   refine goes_ Tryz.func39 (by kernel_rfl) rfl #[.agg #[i6 aJ,i6 aK,.slice aY aI.length aZ]] (by rfl) rfl rfl (by(try simp only[l_m,l_c,l_n]);rfl) ?_
   with_reducible refine(ident_Org.calls k aJ aK _ _ aI bE _ ?side1 ?side2 A6.out).mono ?_
   (case side1=> exact(Kd.R_reads' aD.out).2.2)
   (case side2=> exact(Kd.R_reads' aD.out).2.1)
   rintro e e3 ⟨rfl,hb⟩
   refine⟨_,rfl,?_⟩
   have aR:=am (Kd.R_below (by exact aD.out) hb)
   have aS:=am (blk_below aA.out hb)
   have aT:=am (blk_below aC.out hb)
   have aU:=am (below_step (HB.out) hb)
   clear aD aA aC HB
   have aD:=aR
   have aA:=aS
   have aC:=aT
   have HB:=aU
   clear aR aS aT aU
   clear hb
   refine hK.out _ _ (an3 (bc3 aC.out) (bc6 aA.out)) (fun hHeld=> ?_)
   clear hK K
   refine norm_ (a':=?_) ?_ ?_
   rotate_left
   ·show Act.put _ (some 21) _=_
    simp only[Act.put,l_a,l_z,l_s,i64_w,i32_w]
    rfl
   refine one_ (i:=4) (N:=some 24) (rl [5,2]) rfl rfl (by kernel_rfl) (by decide) (fun K hK=> ?_)
   refine goes_ Tryz.func39 (by kernel_rfl) rfl #[.agg #[i6 aG,i6 aH,.slice aP aE.length c0_3]] (by rfl) rfl rfl (by(try simp only[l_m,l_c,l_n]);rfl) ?_
   with_reducible refine(ident_Org.calls k aG aH _ _ aE bF _ ?side1 ?side2 A7.out).mono ?_
   (case side1=> exact(Kd.C_below aV.out HB.out))
   (case side2=> exact aW.out)
   rintro e e4 ⟨rfl,hb⟩
   refine⟨_,rfl,?_⟩
   have aR:=am (Kd.R_below (by exact aD.out) hb)
   have aS:=am (blk_below aA.out hb)
   have aT:=am (blk_below aC.out hb)
   have aU:=am (below_step (HB.out) hb)
   clear aD aA aC HB
   have aD:=aR
   have aA:=aS
   have aC:=aT
   have HB:=aU
   clear aR aS aT aU
   clear hb
   refine hK.out _ _ (an3 (bc3 aC.out) (bc6 aA.out)) (fun hHeld=> ?_)
   clear hK K
   refine norm_ (a':=?_) ?_ ?_
   rotate_left
   ·show Act.put _ (some 24) _=_
    simp only[Act.put,l_a,l_z,l_s,i64_w,i32_w]
    rfl
   refine pure_ (i:=5) (N:=some 2) (v:=?_) (a':=?_) (rl [6,1]) rfl rfl (by kernel_rfl) (fun _ _ _ h=> h) (Or.inl ⟨by rfl,?_⟩) ?_ ?_
   rotate_left
   ·intro w'
    go_simp
    with_reducible rfl
   rotate_left
   ·simp only[Act.put,l_a,l_z,l_s,i64_w,i32_w]
    rfl
   refine pure_ (i:=6) (N:=some 3) (v:=?_) (a':=?_) (rl [7]) rfl rfl (by kernel_rfl) (fun _ _ _ h=> h) (Or.inl ⟨by rfl,?_⟩) ?_ ?_
   rotate_left
   ·intro w'
    go_simp
    with_reducible rfl
   rotate_left
   ·simp only[Act.put,l_a,l_z,l_s,i64_w,i32_w]
    rfl
   refine done_ (by kernel_rfl) ?_
   try go_wp2
   go_ret2
   exact⟨by rfl,HB.out⟩
  ·rw[if_neg c5]at H
   have eB:=decide_eq_false c5
   clear c5
   obtain⟨bG,bM,H⟩:=Option.bind_eq_some_iff.mp H
   try dsimp only at H
   have eX:=am bM
   clear bM
   obtain⟨bH,bN,H⟩:=Option.bind_eq_some_iff.mp H
   try dsimp only at H
   have eY:=am bN
   clear bN
   simp only[Option.some.injEq,Prod.mk.injEq]at H
   obtain⟨rfl,rfl⟩:=H
   go_enter Tryz.func15,Tryz.ntmps15
   try go_wp2_with (first|((with_reducible refine gate_dst (N:=1) rfl ?_);refine box_event ?hg (N:=1) ?hd (cs:=#[i6 aM,i6 aG,i6 aH,.slice aP aE.length c0_3,.string aN,i6 aO]) (t:=26) ?hr ?_;(case hd=> rfl);(case hg=> rfl);(case hr=> (go_simp;done));intro aF hg e5 hbox hb;have aA:=am (hbox);have bC:=am (gsz hg HB.out);have bD:=am (gsz hg HB.out);replace HB:=am (below_step (HB.out) hb);clear hb hbox hg;obtain⟨cJ,cK,cL,cM,cN,cO⟩:=bc6 aA.out;obtain⟨cP,cQ,cR,cS,cT,cU⟩:=bf6 aA.out)|((with_reducible refine gate_callee (f:=16) rfl ?_);refine goesL_ (some 8) rfl rfl Tryz.func16 (by kernel_rfl) rfl #[.agg #[i6 aM,i6 aG,i6 aH,.slice aP aE.length c0_3,.string aN,i6 aO]] rfl (by(try simp only[l_m,l_c,l_n]);rfl) ?_;(with_reducible refine(note_Check.calls k aM aG aH _ _ aE aN aO a8 _ ?side1 ?side2 A2.out).mono ?_);(case side1=> exact(Kd.C_below aV.out HB.out));(case side2=> exact aW.out);rintro e e6 ⟨rfl,hb⟩;refine⟨_,rfl,?_⟩;replace aA:=am (blk_below aA.out hb);replace HB:=am (below_step (HB.out) hb);clear hb;obtain⟨cV,cW,cX,cY,cZ,c0⟩:=bc6 aA.out;obtain⟨c1,dA,dB,dC,dD,dE⟩:=bf6 aA.out)|((with_reducible refine gate_callee (f:=38) rfl ?_);refine goesL_ (some 13) rfl rfl Tryz.func38 (by kernel_rfl) rfl #[.agg #[i6 aG,i6 aH,.slice aP aE.length c0_3]] rfl (by(try simp only[l_m,l_c,l_n]);rfl) ?_;(with_reducible refine(ident_Parent.calls aG aH _ _ aE aJ aK aI bI bJ _ ?side1 ?side2 A4.out).mono ?_);(case side1=> exact(Kd.C_below aV.out HB.out));(case side2=> exact aW.out);rintro e e7 ⟨v133,rfl,ho0,hb⟩;refine⟨_,rfl,?_⟩;have aD:=am (Kd.R_lower ho0 (below_size (HB.out)));replace aA:=am (blk_below aA.out hb);replace HB:=am (below_step (HB.out) hb);clear hb ho0)|((with_reducible refine gate_dst (N:=4) rfl ?_);refine box_event ?hg (N:=4) ?hd (cs:=#[i6 0,i6 0,.slice none 0 0]) (t:=24) ?hr ?_;(case hd=> rfl);(case hg=> rfl);(case hr=> (go_simp;done));intro aB hg bO hbox hb;replace aD:=am (Kd.R_below (by exact aD.out) hb);have aC:=am (hbox);have bL:=am (gsz hg HB.out);have a9:=am (gsz hg HB.out);replace HB:=am (below_step (HB.out) hb);have aL:=am ((by rw[hg];exact Nat.ne_of_lt (blk_lt aA.out):aF≠aB));have aQ:=am ((by rw[hg];exact Nat.ne_of_gt (blk_lt aA.out):aB≠aF));replace aA:=am (blk_below aA.out hb);clear hb hbox hg;have eU:=aQ.out;have eV:=aL.out;obtain⟨dF,dG,dH⟩:=bc3 aC.out;obtain⟨dI,dJ,dK⟩:=bf3 aC.out;obtain⟨a6,a7,eo32⟩:=Kd.R_slice aD.out;subst eo32;obtain⟨dL,dM,dN,dO,dP,dQ⟩:=bc6 aA.out;obtain⟨dR,dS,dT,dU,dV,dW⟩:=bf6 aA.out))
   have aR:Aside0 (Kd.R k46 46 (((bO.setCell ⟨aB,0,none⟩ (i6 aJ)).setCell ⟨aB,1,none⟩ (i6 aK)).setCell ⟨aB,2,none⟩ (.slice a6 aI.length a7)) w.heap.size (fun _=> True) (.slice a6 aI.length a7) aI):=⟨by exact Kd.R_mono (rf (rf (rf (Kd.R_types aD.out aC.out (by decide))))) (fun _ hk=> trivial)⟩
   have aS:Aside0 ((((bO.setCell ⟨aB,0,none⟩ (i6 aJ)).setCell ⟨aB,1,none⟩ (i6 aK)).setCell ⟨aB,2,none⟩ (.slice a6 aI.length a7)).heap[aF]?=some (.cells #[i6 aM,i6 aG,i6 aH,.slice aP aE.length c0_3,.string aN,i6 aO] 26 (0,0))):=⟨by(iterate 3 refine blk_far ?_ aL.out _);exact aA.out⟩
   have aT:Aside0 ((((bO.setCell ⟨aB,0,none⟩ (i6 aJ)).setCell ⟨aB,1,none⟩ (i6 aK)).setCell ⟨aB,2,none⟩ (.slice a6 aI.length a7)).heap[aB]?=some (.cells #[i6 aJ,i6 aK,.slice a6 aI.length a7] 24 (0,0))):=⟨by exact bp (bp (bp aC.out 0) 1) 2⟩
   have aU:Aside0 (Below w.heap.size w (((bO.setCell ⟨aB,0,none⟩ (i6 aJ)).setCell ⟨aB,1,none⟩ (i6 aK)).setCell ⟨aB,2,none⟩ (.slice a6 aI.length a7))):=⟨bs3 HB.out a9.out⟩
   clear aD
   clear aA
   clear aC
   clear HB
   generalize (((bO.setCell ⟨aB,0,none⟩ (i6 aJ)).setCell ⟨aB,1,none⟩ (i6 aK)).setCell ⟨aB,2,none⟩ (.slice a6 aI.length a7))=eZ at aR aS aT aU ⊢
   have aD:=aR
   have aA:=aS
   have aC:=aT
   have HB:=aU
   clear aR aS aT aU
   have aR:=am (Kd.R_drew aD.out)
   have aS:=am (blk_drew aA.out)
   have aT:=am (blk_drew aC.out)
   have aU:=am (below_drew1 HB.out)
   clear aD aA aC HB
   have aD:=aR
   have aA:=aS
   have aC:=aT
   have HB:=aU
   clear aR aS aT aU
   refine start_ (n:=7) (S:=fun w'=> w'.cell? ⟨aF,0,none⟩=some (i6 aM)∧w'.cell? ⟨aF,1,none⟩=some (i6 aG)∧w'.cell? ⟨aF,2,none⟩=some (i6 aH)∧w'.cell? ⟨aF,3,none⟩=some (.slice aP aE.length c0_3)∧w'.cell? ⟨aF,4,none⟩=some (.string aN)∧w'.cell? ⟨aF,5,none⟩=some (i6 aO)∧w'.cell? ⟨aB,0,none⟩=some (i6 aJ)∧w'.cell? ⟨aB,1,none⟩=some (i6 aK)∧w'.cell? ⟨aB,2,none⟩=some (.slice a6 aI.length a7)) (ds:=[]) (rl [0,7]) (by kernel_rfl) rfl rfl (an6 (bc6 aA.out) (bc3 aC.out)) (fun hHeld=> ?_)
   generalize eZ.drew=e8 at aD aA aC HB hHeld ⊢
   refine pure_ (i:=0) (N:=some 25) (v:=?_) (a':=?_) (rl [1,6]) rfl rfl (by kernel_rfl) (fun _ _ _ h=> h) (Or.inl ⟨by rfl,?_⟩) ?_ ?_
   rotate_left
   ·intro w'
    go_simp
    with_reducible rfl
   rotate_left
   ·simp only[Act.put,l_a,l_z,l_s,i64_w,i32_w]
    rfl
   refine take_ (i:=1) (N:=some 26) (v:=?_) (a':=?_) (rl [2,5]) rfl rfl (by kernel_rfl) (fun _ _ _ h=> h) (Or.inl ⟨by rfl,?_⟩) hHeld ?_ ?_
   rotate_left
   ·rintro w' ⟨s0,s1,s2,s3,s4,s5,s6,s7,s8⟩
    go_simp
    with_reducible rfl
   rotate_left
   ·simp only[Act.put,l_a,l_z,l_s,i64_w,i32_w]
    rfl
   refine take_ (i:=3) (N:=some 28) (v:=?_) (a':=?_) (rl [2,1,1,3]) rfl rfl (by kernel_rfl) (fun _ _ _ h=> h) (Or.inl ⟨by rfl,?_⟩) hHeld ?_ ?_
   rotate_left
   ·rintro w' ⟨s0,s1,s2,s3,s4,s5,s6,s7,s8⟩
    go_simp
    with_reducible rfl
   rotate_left
   ·simp only[Act.put,l_a,l_z,l_s,i64_w,i32_w]
    rfl
   refine one_ (i:=2) (N:=some 27) (rl [4,3]) rfl rfl (by kernel_rfl) (by decide) (fun K hK=> ?_)
   refine goes_ Tryz.func39 (by kernel_rfl) rfl #[.agg #[i6 aG,i6 aH,.slice aP aE.length c0_3]] (by rfl) rfl rfl (by(try simp only[l_m,l_c,l_n]);rfl) ?_
   with_reducible refine(ident_Org.calls k aG aH _ _ aE bG _ ?side1 ?side2 eX.out).mono ?_
   (case side1=> exact(Kd.C_below aV.out HB.out))
   (case side2=> exact aW.out)
   rintro e e9 ⟨rfl,hb⟩
   refine⟨_,rfl,?_⟩
   have aR:=am (Kd.R_below (by exact aD.out) hb)
   have aS:=am (blk_below aA.out hb)
   have aT:=am (blk_below aC.out hb)
   have aU:=am (below_step (HB.out) hb)
   clear aD aA aC HB
   have aD:=aR
   have aA:=aS
   have aC:=aT
   have HB:=aU
   clear aR aS aT aU
   clear hb
   refine hK.out _ _ (an6 (bc6 aA.out) (bc3 aC.out)) (fun hHeld=> ?_)
   clear hK K
   refine norm_ (a':=?_) ?_ ?_
   rotate_left
   ·show Act.put _ (some 27) _=_
    simp only[Act.put,l_a,l_z,l_s,i64_w,i32_w]
    rfl
   refine one_ (i:=4) (N:=some 29) (rl [5,2]) rfl rfl (by kernel_rfl) (by decide) (fun K hK=> ?_)
   refine goes_ Tryz.func39 (by kernel_rfl) rfl #[.agg #[i6 aJ,i6 aK,.slice a6 aI.length a7]] (by rfl) rfl rfl (by(try simp only[l_m,l_c,l_n]);rfl) ?_
   with_reducible refine(ident_Org.calls k aJ aK _ _ aI bH _ ?side1 ?side2 eY.out).mono ?_
   (case side1=> exact(Kd.R_reads' aD.out).2.2)
   (case side2=> exact(Kd.R_reads' aD.out).2.1)
   rintro e fA ⟨rfl,hb⟩
   refine⟨_,rfl,?_⟩
   have aR:=am (Kd.R_below (by exact aD.out) hb)
   have aS:=am (blk_below aA.out hb)
   have aT:=am (blk_below aC.out hb)
   have aU:=am (below_step (HB.out) hb)
   clear aD aA aC HB
   have aD:=aR
   have aA:=aS
   have aC:=aT
   have HB:=aU
   clear aR aS aT aU
   clear hb
   refine hK.out _ _ (an6 (bc6 aA.out) (bc3 aC.out)) (fun hHeld=> ?_)
   clear hK K
   refine norm_ (a':=?_) ?_ ?_
   rotate_left
   ·show Act.put _ (some 29) _=_
    simp only[Act.put,l_a,l_z,l_s,i64_w,i32_w]
    rfl
   refine pure_ (i:=5) (N:=some 2) (v:=?_) (a':=?_) (rl [6,1]) rfl rfl (by kernel_rfl) (fun _ _ _ h=> h) (Or.inl ⟨by rfl,?_⟩) ?_ ?_
   rotate_left
   ·intro w'
    go_simp
    with_reducible rfl
   rotate_left
   ·simp only[Act.put,l_a,l_z,l_s,i64_w,i32_w]
    rfl
   refine pure_ (i:=6) (N:=some 3) (v:=?_) (a':=?_) (rl [7]) rfl rfl (by kernel_rfl) (fun _ _ _ h=> h) (Or.inl ⟨by rfl,?_⟩) ?_ ?_
   rotate_left
   ·intro w'
    go_simp
    with_reducible rfl
   rotate_left
   ·simp only[Act.put,l_a,l_z,l_s,i64_w,i32_w]
    rfl
   refine done_ (by kernel_rfl) ?_
   try go_wp2
   go_ret2
   exact⟨by rfl,HB.out⟩
 ·rw[if_neg c3]at H
  have d9:=beq_eq_false_iff_ne.mpr c3
  have eA:=bne_iff_ne.mpr c3
  simp only[Option.some.injEq,Prod.mk.injEq]at H
  obtain⟨rfl,rfl⟩:=H
  go_enter Tryz.func15,Tryz.ntmps15
  go_wp2_with (first|((with_reducible refine gate_dst (N:=1) rfl ?_);refine box_event ?hg (N:=1) ?hd (cs:=#[i6 aM,i6 aG,i6 aH,.slice aP aE.length c0_3,.string aN,i6 aO]) (t:=26) ?hr ?_;(case hd=> rfl);(case hg=> rfl);(case hr=> (go_simp;done));intro aF hg fB hbox hb;have aA:=am (hbox);have bC:=am (gsz hg HB.out);have bD:=am (gsz hg HB.out);replace HB:=am (below_step (HB.out) hb);clear hb hbox hg;obtain⟨dX,dY,dZ,d0,d1,d2⟩:=bc6 aA.out;obtain⟨d3,d4,d5,d6,d7,d8⟩:=bf6 aA.out)|((with_reducible refine gate_callee (f:=16) rfl ?_);refine goesL_ (some 8) rfl rfl Tryz.func16 (by kernel_rfl) rfl #[.agg #[i6 aM,i6 aG,i6 aH,.slice aP aE.length c0_3,.string aN,i6 aO]] rfl (by(try simp only[l_m,l_c,l_n]);rfl) ?_;(with_reducible refine(note_Check.calls k aM aG aH _ _ aE aN aO a8 _ ?side1 ?side2 A2.out).mono ?_);(case side1=> exact(Kd.C_below aV.out HB.out));(case side2=> exact aW.out);rintro e fC ⟨rfl,hb⟩;refine⟨_,rfl,?_⟩;replace aA:=am (blk_below aA.out hb);replace HB:=am (below_step (HB.out) hb);clear hb))
  go_ret2
  exact⟨by rfl,HB.out⟩

/-! ### note_within: function 26 -/
def note_within.l0:Nat→Int→List Int→Int→Int→Option (Bool)
 |0,_,_,_,_=> none
 |k+1,x0,x7,x8,x9=> if x9< x8 then(if 0≤x9 then(if x9< (x7.length:Int)then(if(rd x7 x9)< x0 then(some false)else(if(rd x7 x9)> 1000000000 then(some false)else(note_within.l0 k x0 x7 x8 (wrap64 (x9+1)))))else(none))else(none))else(some true)
def note_within.f (k:Nat) (a0:Int) (l1:List Int):Option (Bool):=note_within.l0 k a0 l1 (l1.length:Int) 0
theorem note_within.mono_l:∀ k,(∀ y0 y1 y2 y3,LeO (note_within.l0 k y0 y1 y2 y3) (note_within.l0 (k+1) y0 y1 y2 y3))
 |0=> fun _ _ _ _ r h=> by simp[note_within.l0]at h
 |k+1=> by
  have ih0:=note_within.mono_l k
  ·intro y0 y1 y2 y3
   unfold note_within.l0
   repeat' with_reducible first|apply ih0|apply LeO.refl|apply LeO.none|refine LeO.ite ?_ ?_|refine LeO.bind ?_ (fun _=> ?_)
theorem note_within.mono:∀ a0 a1 k,LeO (note_within.f k a0 a1) (note_within.f (k+1) a0 a1):=by
 intro a0 a1 k
 have ih0:=note_within.mono_l k
 unfold note_within.f
 repeat' with_reducible first|apply ih0|apply LeO.refl|apply LeO.none|refine LeO.ite ?_ ?_|refine LeO.bind ?_ (fun _=> ?_)
set_option maxHeartbeats 8000000 in
set_option maxRecDepth 100000 in
theorem note_within.calls (k:Nat) (a0:Int) (A1:Option Addr) (c1:Nat) (l1:List Int) (r:Bool) (w:World) (hr1:Kd.C (Kd.int .i64) w A1 l1.length l1) (hc1:l1.length≤c1) (h:note_within.f k a0 l1=some r) :
  Calls Tryz.prog 26 #[i6 a0,.slice A1 l1.length c1] w fun e w'=> e=.returned (.bool r)∧Drawn0 w w':=by
 have HR1:=am hr1
 have HC1:=am hc1
 clear hr1 hc1
 unfold note_within.f at h
 have H:=h
 clear h
 have H':=am H
 clear H
 go_enter Tryz.func26,Tryz.ntmps26
 go_wp2
 go_loopg [9] k (fun kq v9 w'=> ∃ (aA:Int),v9=i6 aA∧Aside0 (note_within.l0 kq a0 l1 (l1.length:Int) aA=some r)∧Aside0 (kq≤k)∧Drawn0 w w')
 case atStart=> exact⟨(0),(by rfl),H',⟨Nat.le_refl _⟩,Drawn0.refl _⟩
 case round=>
  clear H'
  obtain⟨aA,rfl,HA,aI,⟨m1,rfl⟩⟩:=hrel
  cases gk with
  |zero=> exact absurd HA.out (by simp[note_within.l0])
  |succ k1=>
   have H:=HA.out
   clear HA
   simp only[note_within.l0]at H
   by_cases c3:aA< (l1.length:Int)
   ·rw[if_pos c3]at H
    have aF:=decide_eq_true c3
    clear c3
    by_cases c4:0≤aA
    ·rw[if_pos c4]at H
     have aJ:=decide_eq_true c4
     clear c4
     by_cases c5:aA< (l1.length:Int)
     ·rw[if_pos c5]at H
      have aK:=decide_eq_true c5
      clear c5
      by_cases c6:(rd l1 aA)< a0
      ·rw[if_pos c6]at H
       have aG:=decide_eq_true c6
       clear c6
       obtain rfl:=Option.some.inj H
       have aB:0≤(aA:Int):=of_decide_eq_true (by(with_reducible assumption))
       have aC:aA< (l1.length:Int):=of_decide_eq_true (by(with_reducible assumption))
       obtain⟨aE,e142,aD⟩:=Kd.at_int HR1.out aA aB aC
       cases e142
       replace aB:=eq_true aB
       replace aC:=eq_true aC
       go_wp2
       go_ret
       exact⟨by rfl,by repeat(first|exact Drawn0.refl _|apply Drawn0.step)⟩
      ·rw[if_neg c6]at H
       have aG:=decide_eq_false c6
       clear c6
       by_cases c7:(rd l1 aA)> 1000000000
       ·rw[if_pos c7]at H
        have aH:decide (1000000000< (rd l1 aA))=true:=decide_eq_true c7
        clear c7
        obtain rfl:=Option.some.inj H
        have aB:0≤(aA:Int):=of_decide_eq_true (by(with_reducible assumption))
        have aC:aA< (l1.length:Int):=of_decide_eq_true (by(with_reducible assumption))
        obtain⟨aE,e142,aD⟩:=Kd.at_int HR1.out aA aB aC
        cases e142
        replace aB:=eq_true aB
        replace aC:=eq_true aC
        go_wp2
        go_ret
        exact⟨by rfl,by repeat(first|exact Drawn0.refl _|apply Drawn0.step)⟩
       ·rw[if_neg c7]at H
        have aH:decide (1000000000< (rd l1 aA))=false:=decide_eq_false c7
        clear c7
        have H':=am H
        clear H
        have aB:0≤(aA:Int):=of_decide_eq_true (by(with_reducible assumption))
        have aC:aA< (l1.length:Int):=of_decide_eq_true (by(with_reducible assumption))
        obtain⟨aE,e142,aD⟩:=Kd.at_int HR1.out aA aB aC
        cases e142
        replace aB:=eq_true aB
        replace aC:=eq_true aC
        go_wp2
        go_roundg k1
        case measure=> have:=aI.out;omega
        case rel=> exact⟨(wrap64 (aA+1)),(by rfl),H',⟨by have:=aI.out;omega⟩,by repeat(first|exact Drawn0.refl _|apply Drawn0.step)⟩
     ·rw[if_neg c5]at H
      exact absurd H (by simp)
    ·rw[if_neg c4]at H
     exact absurd H (by simp)
   ·rw[if_neg c3]at H
    have aF:=decide_eq_false c3
    clear c3
    obtain rfl:=Option.some.inj H
    go_wp2
    go_ret
    exact⟨by rfl,by repeat(first|exact Drawn0.refl _|apply Drawn0.step)⟩

/-! ### note_empty: function 27 -/
def note_empty.f (aD:Int) (aE:Int) (aF:Int) (aB:List (S46)) (aC:ByteArray) (aG:Int):Option (Bool):=if aD=0 then(if aE=0 then(if aF=0 then(if(aB.length:Int)=0 then(if aC.toList=([]:List UInt8)then(some (aG==0))else(some false))else(some false))else(some false))else(some false))else(some false)
set_option maxHeartbeats 8000000 in
set_option maxRecDepth 100000 in
theorem note_empty.calls (aD:Int) (aE:Int) (aF:Int) (aH:Option Addr) (c0_3:Nat) (aB:List (S46)) (aC:ByteArray) (aG:Int) (r:Bool) (w:World) (aL:Kd.C k46 w aH aB.length aB) (aM:aB.length≤c0_3) (h:note_empty.f aD aE aF aB aC aG=some r) :
  Calls Tryz.prog 27 #[.agg #[i6 aD,i6 aE,i6 aF,.slice aH aB.length c0_3,.string aC,i6 aG]] w fun e w'=> e=.returned (.bool r)∧Below w.heap.size w w':=by
 have hu26:=Tryz.underlying26
 have cY:=am aL
 have cZ:=am aM
 clear aL aM
 have HB:=am (Below.refl w.heap.size w)
 unfold note_empty.f at h
 have H:=h
 clear h
 by_cases c2:aD=0
 ·rw[if_pos c2]at H
  have cB:=beq_iff_eq.mpr c2
  have cC:=bne_eq_false_iff_eq.mpr c2
  clear c2
  by_cases c3:aE=0
  ·rw[if_pos c3]at H
   have cD:=beq_iff_eq.mpr c3
   have cE:=bne_eq_false_iff_eq.mpr c3
   clear c3
   by_cases c4:aF=0
   ·rw[if_pos c4]at H
    have cF:=beq_iff_eq.mpr c4
    have cG:=bne_eq_false_iff_eq.mpr c4
    clear c4
    by_cases c5:(aB.length:Int)=0
    ·rw[if_pos c5]at H
     have cH:=beq_iff_eq.mpr c5
     have cI:=bne_eq_false_iff_eq.mpr c5
     clear c5
     by_cases c6:aC.toList=([]:List UInt8)
     ·rw[if_pos c6]at H
      have cJ:=beq_iff_eq.mpr c6
      have cK:=bne_eq_false_iff_eq.mpr c6
      have cL:aC.toList.isEmpty=true:=by simpa using c6
      clear c6
      obtain rfl:=Option.some.inj H
      go_enter Tryz.func27,Tryz.ntmps27
      go_wp2_with (first|((with_reducible refine gate_dst (N:=1) rfl ?_);(try(refine gate_guard (by rfl) ?_;dsimp only));refine box_event ?hg (N:=1) ?hd (cs:=#[i6 aD,i6 aE,i6 aF,.slice aH aB.length c0_3,.string aC,i6 aG]) (t:=26) ?hr ?_;(case hd=> rfl);(case hg=> rfl);(case hr=> (go_simp;done));intro aI hg w7 hbox hb;have aA:=am (hbox);have aJ:=am (gsz hg HB.out);have aK:=am (gsz hg HB.out);replace HB:=am (below_step (HB.out) hb);clear hb hbox hg;obtain⟨cM,cN,cO,cP,cQ,cR⟩:=bc6 aA.out;obtain⟨cS,cT,cU,cV,cW,cX⟩:=bf6 aA.out))
      go_ret
      exact⟨by rfl,HB.out⟩
     ·rw[if_neg c6]at H
      have cJ:=beq_eq_false_iff_ne.mpr c6
      have cK:=bne_iff_ne.mpr c6
      have cL:aC.toList.isEmpty=false:=by simpa using c6
      obtain rfl:=Option.some.inj H
      go_enter Tryz.func27,Tryz.ntmps27
      go_wp2_with (first|((with_reducible refine gate_dst (N:=1) rfl ?_);(try(refine gate_guard (by rfl) ?_;dsimp only));refine box_event ?hg (N:=1) ?hd (cs:=#[i6 aD,i6 aE,i6 aF,.slice aH aB.length c0_3,.string aC,i6 aG]) (t:=26) ?hr ?_;(case hd=> rfl);(case hg=> rfl);(case hr=> (go_simp;done));intro aI hg w9 hbox hb;have aA:=am (hbox);have aJ:=am (gsz hg HB.out);have aK:=am (gsz hg HB.out);replace HB:=am (below_step (HB.out) hb);clear hb hbox hg;obtain⟨aN,aO,aP,aQ,aR,aS⟩:=bc6 aA.out;obtain⟨aT,aU,aV,aW,aX,aY⟩:=bf6 aA.out))
      go_ret
      exact⟨by rfl,HB.out⟩
    ·rw[if_neg c5]at H
     have cH:=beq_eq_false_iff_ne.mpr c5
     have cI:=bne_iff_ne.mpr c5
     have c0:¬ (aB=[]):=fun h_=> c5 (by rw[h_];rfl)
     obtain rfl:=Option.some.inj H
     go_enter Tryz.func27,Tryz.ntmps27
     go_wp2_with (first|((with_reducible refine gate_dst (N:=1) rfl ?_);(try(refine gate_guard (by rfl) ?_;dsimp only));refine box_event ?hg (N:=1) ?hd (cs:=#[i6 aD,i6 aE,i6 aF,.slice aH aB.length c0_3,.string aC,i6 aG]) (t:=26) ?hr ?_;(case hd=> rfl);(case hg=> rfl);(case hr=> (go_simp;done));intro aI hg c1 hbox hb;have aA:=am (hbox);have aJ:=am (gsz hg HB.out);have aK:=am (gsz hg HB.out);replace HB:=am (below_step (HB.out) hb);clear hb hbox hg;obtain⟨aZ,a0,a1,a2,a3,a4⟩:=bc6 aA.out;obtain⟨a5,a6,a7,a8,a9,bA⟩:=bf6 aA.out))
     go_ret
     exact⟨by rfl,HB.out⟩
   ·rw[if_neg c4]at H
    have cF:=beq_eq_false_iff_ne.mpr c4
    have cG:=bne_iff_ne.mpr c4
    obtain rfl:=Option.some.inj H
    go_enter Tryz.func27,Tryz.ntmps27
    go_wp2_with (first|((with_reducible refine gate_dst (N:=1) rfl ?_);(try(refine gate_guard (by rfl) ?_;dsimp only));refine box_event ?hg (N:=1) ?hd (cs:=#[i6 aD,i6 aE,i6 aF,.slice aH aB.length c0_3,.string aC,i6 aG]) (t:=26) ?hr ?_;(case hd=> rfl);(case hg=> rfl);(case hr=> (go_simp;done));intro aI hg dA hbox hb;have aA:=am (hbox);have aJ:=am (gsz hg HB.out);have aK:=am (gsz hg HB.out);replace HB:=am (below_step (HB.out) hb);clear hb hbox hg;obtain⟨bB,bC,bD,bE,bF,bG⟩:=bc6 aA.out;obtain⟨bH,bI,bJ,bK,bL,bM⟩:=bf6 aA.out))
    go_ret
    exact⟨by rfl,HB.out⟩
  ·rw[if_neg c3]at H
   have cD:=beq_eq_false_iff_ne.mpr c3
   have cE:=bne_iff_ne.mpr c3
   obtain rfl:=Option.some.inj H
   go_enter Tryz.func27,Tryz.ntmps27
   go_wp2_with (first|((with_reducible refine gate_dst (N:=1) rfl ?_);(try(refine gate_guard (by rfl) ?_;dsimp only));refine box_event ?hg (N:=1) ?hd (cs:=#[i6 aD,i6 aE,i6 aF,.slice aH aB.length c0_3,.string aC,i6 aG]) (t:=26) ?hr ?_;(case hd=> rfl);(case hg=> rfl);(case hr=> (go_simp;done));intro aI hg dB hbox hb;have aA:=am (hbox);have aJ:=am (gsz hg HB.out);have aK:=am (gsz hg HB.out);replace HB:=am (below_step (HB.out) hb);clear hb hbox hg;obtain⟨bN,bO,bP,bQ,bR,bS⟩:=bc6 aA.out;obtain⟨bT,bU,bV,bW,bX,bY⟩:=bf6 aA.out))
   go_ret
   exact⟨by rfl,HB.out⟩
 ·rw[if_neg c2]at H
  have cB:=beq_eq_false_iff_ne.mpr c2
  have cC:=bne_iff_ne.mpr c2
  obtain rfl:=Option.some.inj H
  go_enter Tryz.func27,Tryz.ntmps27
  go_wp2_with (first|((with_reducible refine gate_dst (N:=1) rfl ?_);(try(refine gate_guard (by rfl) ?_;dsimp only));refine box_event ?hg (N:=1) ?hd (cs:=#[i6 aD,i6 aE,i6 aF,.slice aH aB.length c0_3,.string aC,i6 aG]) (t:=26) ?hr ?_;(case hd=> rfl);(case hg=> rfl);(case hr=> (go_simp;done));intro aI hg dC hbox hb;have aA:=am (hbox);have aJ:=am (gsz hg HB.out);have aK:=am (gsz hg HB.out);replace HB:=am (below_step (HB.out) hb);clear hb hbox hg;obtain⟨bZ,b0,b1,b2,b3,b4⟩:=bc6 aA.out;obtain⟨b5,b6,b7,b8,b9,cA⟩:=bf6 aA.out))
  go_ret
  exact⟨by rfl,HB.out⟩

end Go.Proofs.YtlaeihdldofkcaaGreatDoor.PN

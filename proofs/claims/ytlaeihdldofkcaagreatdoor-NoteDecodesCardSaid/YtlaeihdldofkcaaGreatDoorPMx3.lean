/- The machine side of this seat's laws: plain functions, and proofs that the calls do what they say; written by a program of this session over the translation; no conditions beyond those typed. -/
import Derived.Test.YtlaeihdldofkcaaGreatDoorPMx0
import Derived.Test.YtlaeihdldofkcaaGreatDoorPMx2
namespace Go.Proofs.YtlaeihdldofkcaaGreatDoor.PN
open Go.RowKit Go.Proofs.YtlaeihdldofkcaaGreatDoorW.PrintWords Go.Proofs.YtlaeihdldofkcaaGreatDoorW.PrintLast Go.Proofs.YtlaeihdldofkcaaGreatDoorW.PrintMore
attribute [local go_sem] max2_int min2_int max_two min_two max_three min_three max_four min_four   -- for this text's walks alone
open List renaming setIfInBounds_toArray → l_a, set_cons_zero → l_z, set_cons_succ → l_s, map_toArray → l_m, map_cons → l_c, map_nil → l_n
set_option linter.unusedVariables false
set_option linter.unusedSimpArgs false

/-! ### note_Encode: function 7 -/
def note_Encode.putn (k:Nat) (s:ByteArray) (n:Int):Option ByteArray:=(pack_Number.f k (IntKind.u64.wrap n)).bind fun t=> if s.size+t.size≤9223372036854775807 then some (s++t)else none
theorem note_Encode.putn_mono (s:ByteArray) (n:Int) (k:Nat):LeO (note_Encode.putn k s n) (note_Encode.putn (k+1) s n):=by
 unfold note_Encode.putn
 exact LeO.bind (pack_Number.mono _ _) (fun _=> LeO.refl _)
set_option maxHeartbeats 8000000 in
set_option maxRecDepth 100000 in
theorem note_Encode.put_calls (k:Nat) (g:Nat) (s q:ByteArray) (n:Int) (w:World) (hB:w.heap[g]?=some (.cells #[.string s] 9 (0,0))) (h:note_Encode.putn k s n=some q) :
  Calls Tryz.prog 17 #[i6 n,.pointer (some ⟨g,0,none⟩)] w fun e w'=> e=.returned (.tuple #[])∧∃ w1,Below w.heap.size w w1∧w'=w1.setCell ⟨g,0,none⟩ (.string q):=by
 unfold note_Encode.putn at h
 obtain⟨t,ht,h⟩:=Option.bind_eq_some_iff.1 h
 by_cases hs:s.size+t.size≤9223372036854775807
 case neg=> rw[if_neg hs]at h;cases h
 rw[if_pos hs]at h
 obtain rfl:=Option.some.inj h
 have HT:=am ht
 have HBB:=am hB
 have HS:=am hs
 have hc0:w.cell? ⟨g,0,none⟩=some (.string s):=blk_cell hB 0
 have hf0:w.frozen? ⟨g,0,none⟩=false:=blk_frozen hB 0
 have hs1:(9223372036854775807< s.size+t.size)=False:=eq_false (by omega)
 clear ht hB h
 go_enter Tryz.func17,Tryz.ntmps17
 go_wp2
 go_region_law (go_simp;go_at_call 18;refine(pack_Number.calls k (IntKind.u64.wrap n) t _ HT.out).mono ?_;rintro e w1 ⟨rfl,hb⟩;have hc1:w1.cell? ⟨g,0,none⟩=some (.string s):=(hb.cell (p:=⟨g,0,none⟩) (blk_lt HBB.out)).trans (blk_cell HBB.out 0);have hf1:w1.frozen? ⟨g,0,none⟩=false:=(hb.frozen (p:=⟨g,0,none⟩) (blk_lt HBB.out)).trans (blk_frozen HBB.out 0);have HD:=am hb;clear hb)
 all_goals
  refine bodyPost_end (results_none rfl _ _ _) rfl ?_
  exact⟨rfl,_,below_step (below_drew1 (Below.refl _ _)) HD.out,rfl⟩
def note_Encode.puts (k:Nat):ByteArray→List Int→Option ByteArray
 |s,[]=> some s
 |s,n :: l=> (note_Encode.putn k s n).bind fun t=> note_Encode.puts k t l
theorem note_Encode.puts_mono (k:Nat):∀ (l:List Int) (s:ByteArray),LeO (note_Encode.puts k s l) (note_Encode.puts (k+1) s l)
 |[],s=> LeO.refl _
 |n :: l,s=> LeO.bind (note_Encode.putn_mono s n k) (fun t=> note_Encode.puts_mono k l t)
def note_Encode.f (k:Nat) (aI aJ aK aG aL aM a9 bA bB:Int) (a7:List S46) (aE:ByteArray) (aF:Int):Option (ByteArray×Int):=
 (note_Frame.f k aI aJ aK aG aL aM a9 bA bB a7 aE aF).bind fun e=> if e=0 then(note_Encode.puts k ⟨#[]⟩ [aI,aJ,aK,aG,aL,aM]).bind fun s=> (if 0< aG then(ident_Show.f k bA bB a7).bind fun id=> (note_Encode.putn k s a9).bind fun s1=> (pack_Text.f k id.1).bind fun t1=> (pack_Text.f k aE).bind fun t2=> (if t1.size+t2.size≤9223372036854775807∧s1.size+(t1.size+t2.size)≤9223372036854775807 then(note_Encode.putn k (s1++(t1++t2)) aF).bind fun s2=> seal_Seal.f k 1 s2 else none)else seal_Seal.f k 1 s)else some (⟨#[]⟩,e)
theorem note_Encode.mono:∀ aI aJ aK aG aL aM a9 bA bB a7 aE aF k,LeO (note_Encode.f k aI aJ aK aG aL aM a9 bA bB a7 aE aF) (note_Encode.f (k+1) aI aJ aK aG aL aM a9 bA bB a7 aE aF):=by
 intro aI aJ aK aG aL aM a9 bA bB a7 aE aF k
 unfold note_Encode.f
 refine LeO.bind (note_Frame.mono _ _ _ _ _ _ _ _ _ _ _ _ _) (fun _=> LeO.ite (LeO.bind (note_Encode.puts_mono k _ _) (fun s=> LeO.ite (LeO.bind (ident_Show.mono _ _ _ _) (fun id=> LeO.bind (note_Encode.putn_mono _ _ k) (fun s1=> LeO.bind (pack_Text.mono _ _) (fun t1=> LeO.bind (pack_Text.mono _ _) (fun t2=> LeO.ite (LeO.bind (note_Encode.putn_mono _ _ k) (fun s2=> seal_Seal.mono _ _ _)) (LeO.none _)))))) (seal_Seal.mono _ _ _))) (LeO.refl _))
set_option maxHeartbeats 8000000 in
set_option maxRecDepth 100000 in
theorem note_Encode.calls (k:Nat) (aI aJ aK aG aL aM a9 bA bB:Int) (bF:Option Addr) (c0_9:Nat) (a7:List (S46)) (aE:ByteArray) (aF:Int) (r1:ByteArray) (r2:Int) (w:World) (bL:Kd.C k46 w bF a7.length a7) (bM:a7.length≤c0_9) (hw_:WH w) (h:note_Encode.f k aI aJ aK aG aL aM a9 bA bB a7 aE aF=some (r1,r2)) :
  Calls Tryz.prog 7 #[.agg #[i6 aI,i6 aJ,i6 aK,i6 aG,i6 aL,i6 aM,i6 a9,i6 bA,i6 bB,.slice bF a7.length c0_9,.string aE,i6 aF]] w fun e w'=> e=.returned (.tuple #[.string r1,i6 r2])∧Below w.heap.size w w':=by
 have hu1:=Tryz.underlying24
 have hu2:=Tryz.underlying46
 have hu3:=Tryz.underlying26
 have hu4:=Tryz.underlying28
 have HR:=am bL
 have HC:=am bM
 have HW:=am hw_
 have HB:=am (Below.refl w.heap.size w)
 unfold note_Encode.f at h
 replace h:=Option.bind_eq_some_iff.1 h
 obtain⟨e0,hf,h⟩:=h
 have HF:=am hf
 clear bL bM hw_ hf
 by_cases e1:e0=0
 case neg=>
  rw[if_neg e1]at h
  have h1:=Option.some.inj h
  simp only[Prod.mk.injEq]at h1
  obtain⟨rfl,rfl⟩:=h1
  have e2:(e0 !=0)=true:=bne_iff_ne.2 e1
  clear h e1
  go_enter Tryz.func7,Tryz.ntmps7
  go_wp2_with (first|((with_reducible refine gate_dst (N:=1) rfl ?_);refine box_event ?hg (N:=1) ?hd (cs:=#[i6 aI,i6 aJ,i6 aK,i6 aG,i6 aL,i6 aM,i6 a9,i6 bA,i6 bB,.slice bF a7.length c0_9,.string aE,i6 aF]) (t:=28) ?hr ?_;(case hd=> rfl);(case hg=> rfl);(case hr=> (go_simp;done));intro bK hg bV hbox hb;have bE:=am (below_step (HB.out) hb);have bN:=am (gsz hg HB.out);have aH:=am hbox;clear HB;have HB:=bE;have bW:=bN;clear bE bN;clear hb hbox hg;obtain⟨aN,aO,aP,aQ,aR,aS,aT,aU,aV,aW,aX,aY,aZ,a0,a1,a2,a3,a4,a5,a6,aC,aD,aA,aB⟩:=be12 aH.out)|(go_at_call 9;refine(note_Frame.calls k aI aJ aK aG aL aM a9 bA bB bF c0_9 a7 aE aF _ _ (Kd.C_below HR.out (HB.out)) HC.out HF.out).mono ?_;rintro e bP ⟨rfl,hb⟩;have bE:=am (below_step (HB.out) hb);have m1_:=am (blk_below aH.out hb);clear HB;have HB:=bE;clear bE hb;clear aH aN aO aP aQ aR aS aT aU aV aW aX aY aZ a0 a1 a2 a3 a4 a5 a6 aC aD aA aB;have aH:=m1_;clear m1_;obtain⟨aN,aO,aP,aQ,aR,aS,aT,aU,aV,aW,aX,aY,aZ,a0,a1,a2,a3,a4,a5,a6,aC,aD,aA,aB⟩:=be12 aH.out))
  go_ret2
  exact⟨rfl,(HB.out)⟩
 rw[if_pos e1]at h
 subst e1
 replace h:=Option.bind_eq_some_iff.1 h
 obtain⟨S,hS,h⟩:=h
 have HS:=am hS
 obtain⟨bz,hbz⟩:∃ bz:Nat,True:=⟨0,trivial⟩
 have HH:=am h
 obtain⟨L,hL⟩:∃ L:List Int,L=[aI,aJ,aK,aG,aL,aM]:=⟨_,rfl⟩
 have HLL:=am hL
 have hL6:L.length=6:=by rw[hL];rfl
 have HL6:=am hL6
 rw[← hL]at hS
 have HS:=am hS
 clear hS hbz h hL hL6
 go_enter Tryz.func7,Tryz.ntmps7
 go_wp2_with (first|((with_reducible refine gate_dst (N:=1) rfl ?_);refine box_event ?hg (N:=1) ?hd (cs:=#[i6 aI,i6 aJ,i6 aK,i6 aG,i6 aL,i6 aM,i6 a9,i6 bA,i6 bB,.slice bF a7.length c0_9,.string aE,i6 aF]) (t:=28) ?hr ?_;(case hd=> rfl);(case hg=> rfl);(case hr=> (go_simp;done));intro bK hg bV hbox hb;have bE:=am (below_step (HB.out) hb);have bN:=am (gsz hg HB.out);have aH:=am hbox;clear HB;have HB:=bE;have bW:=bN;clear bE bN;clear hb hbox hg;obtain⟨aN,aO,aP,aQ,aR,aS,aT,aU,aV,aW,aX,aY,aZ,a0,a1,a2,a3,a4,a5,a6,aC,aD,aA,aB⟩:=be12 aH.out)|(go_at_call 9;refine(note_Frame.calls k aI aJ aK aG aL aM a9 bA bB bF c0_9 a7 aE aF _ _ (Kd.C_below HR.out (HB.out)) HC.out HF.out).mono ?_;rintro e bP ⟨rfl,hb⟩;have bE:=am (below_step (HB.out) hb);have m1_:=am (blk_below aH.out hb);clear HB;have HB:=bE;clear bE hb;clear aH aN aO aP aQ aR aS aT aU aV aW aX aY aZ a0 a1 a2 a3 a4 a5 a6 aC aD aA aB;have aH:=m1_;clear m1_;obtain⟨aN,aO,aP,aQ,aR,aS,aT,aU,aV,aW,aX,aY,aZ,a0,a1,a2,a3,a4,a5,a6,aC,aD,aA,aB⟩:=be12 aH.out)|((with_reducible refine gate_dst (N:=5) rfl ?_);refine box_event ?hg (N:=5) ?hd (cs:=#[.string ⟨#[]⟩]) (t:=9) ?hr ?_;(case hd=> rfl);(case hg=> rfl);(case hr=> (go_simp;done));intro bG hg bS hbox hb;have bE:=am (below_step (HB.out) hb);have bN:=am (gsz hg HB.out);have NE1_5:bK≠bG:=(by rw[hg];exact Nat.ne_of_lt (blk_lt aH.out));have NE5_1:=Ne.symm NE1_5;have m1_:=am (blk_below aH.out hb);have a8:=am hbox;clear HB;have HB:=bE;have bO:=bN;clear bE bN;clear hb hbox hg;clear aH aN aO aP aQ aR aS aT aU aV aW aX aY aZ a0 a1 a2 a3 a4 a5 a6 aC aD aA aB;have aH:=m1_;clear m1_;obtain⟨aN,aO,aP,aQ,aR,aS,aT,aU,aV,aW,aX,aY,aZ,a0,a1,a2,a3,a4,a5,a6,aC,aD,aA,aB⟩:=be12 aH.out;have bC:bS.cell? ⟨bG,0,none⟩=some (.string ⟨#[]⟩):=(blk_cell a8.out 0).trans rfl;have bD:=blk_frozen a8.out 0)|((with_reducible refine gate_store (t:=9) (p:=5) rfl ?_);refine store_event (t:=9) (p:=5) (v:=?vz_4) (w1:=(bS.setCell ⟨bG,0,none⟩ (.string ⟨#[]⟩))) ?hg ?ho ?hn ?hr ?_;(case ho=> rfl);(case hg=> rfl);(case hn=> rfl);(case hr=> (go_simp;done));intro ws5 hw;have bE:Aside0 (Below w.heap.size w ws5):=⟨by rw[hw];exact(below_set HB.out bO.out)⟩;have bI:Aside0 (ws5.heap[bG]?=some (.cells #[.string ⟨#[]⟩] 9 (0,0))):=⟨by rw[hw];exact(blk_put (cs':=#[.string ⟨#[]⟩]) a8.out 0 (.string ⟨#[]⟩) rfl)⟩;have m1_:Aside0 (ws5.heap[bK]?=some (.cells #[i6 aI,i6 aJ,i6 aK,i6 aG,i6 aL,i6 aM,i6 a9,i6 bA,i6 bB,.slice bF a7.length c0_9,.string aE,i6 aF] 28 (0,0))):=⟨by rw[hw];exact(blk_far aH.out NE1_5 (.string ⟨#[]⟩))⟩;clear hw HB;have HB:=bE;clear a8 bC bD;have a8:=bI;clear bE bI;clear aH aN aO aP aQ aR aS aT aU aV aW aX aY aZ a0 a1 a2 a3 a4 a5 a6 aC aD aA aB;have aH:=m1_;clear m1_;obtain⟨aN,aO,aP,aQ,aR,aS,aT,aU,aV,aW,aX,aY,aZ,a0,a1,a2,a3,a4,a5,a6,aC,aD,aA,aB⟩:=be12 aH.out;have bC:ws5.cell? ⟨bG,0,none⟩=some (.string ⟨#[]⟩):=(blk_cell a8.out 0).trans rfl;have bD:=blk_frozen a8.out 0)|((with_reducible refine gate_dst (N:=29) rfl ?_);refine Kd.R_lit (Kd.int .i64) _ 3 ?hg (N:=29) ?hd (xs:=([aI,aJ,aK,aG,aL,aM]:List Int)) (inner:=[i6 aI,i6 aJ,i6 aK,i6 aG,i6 aL,i6 aM]) (ok:=fun _=> True) (okp:=fun _=> True) ?hr ?hp (fun _ hk=> hk) trivial (Below.refl _ _) (Nat.le_refl _) (by simp) ?_;(case hd=> rfl);(case hg=> rfl);(case hr=> (go_simp;done));(case hp=> exact(Reps.one (show Kd.M (Kd.int .i64) _ _ _ aI [i6 aI]from rfl) (Reps.one (show Kd.M (Kd.int .i64) _ _ _ aJ [i6 aJ]from rfl) (Reps.one (show Kd.M (Kd.int .i64) _ _ _ aK [i6 aK]from rfl) (Reps.one (show Kd.M (Kd.int .i64) _ _ _ aG [i6 aG]from rfl) (Reps.one (show Kd.M (Kd.int .i64) _ _ _ aL [i6 aL]from rfl) (Reps.one (show Kd.M (Kd.int .i64) _ _ _ aM [i6 aM]from rfl) (Reps.none _ _))))))));intro v29 wl ho29 hb hg_ hnew_;clear hg_ hnew_;rw[← HLL.out]at ho29;have bE:=am (below_step (HB.out) hb);have bI:=am (blk_below aH.out hb);have bJ:=am (blk_below a8.out hb);have bH:=am ho29;clear hb ho29 HB aH a8 aN aO aP aQ aR aS aT aU aV aW aX aY aZ a0 a1 a2 a3 a4 a5 a6 aC aD aA aB bC bD;have HB:=bE;have aH:=bI;have a8:=bJ;clear bE bI bJ;obtain⟨bX,bT,e29⟩:=Kd.R_slice bH.out;subst e29;rw[HL6.out]))
 (try clear aN aO aP aQ aR aS aT aU aV aW aX aY aZ a0 a1 a2 a3 a4 a5 a6 aC aD aA aB)
 go_loopg [31] 6 (fun kq v31 w'=> ∃ (i:Nat) (s:ByteArray),v31=i6 (i:Int)∧Aside0 (kq=6 - i)∧Aside0 (i≤6)∧Aside0 (note_Encode.puts k s (L.drop i)=some S)∧Aside0 (Kd.R (Kd.int .i64) 3 w' ws5.heap.size (fun _=> True) (.slice bX L.length bT) L)∧Aside0 (w'.heap[bK]?=some (.cells #[i6 aI,i6 aJ,i6 aK,i6 aG,i6 aL,i6 aM,i6 a9,i6 bA,i6 bB,.slice bF a7.length c0_9,.string aE,i6 aF] 28 (0,0)))∧Aside0 (w'.heap[bG]?=some (.cells #[.string s] 9 (0,0)))∧Aside0 (Below w.heap.size w w'))
 case atStart=> exact⟨0,⟨#[]⟩,rfl,⟨rfl⟩,⟨Nat.zero_le _⟩,HS,⟨bH.out⟩,⟨aH.out⟩,⟨a8.out⟩,⟨HB.out⟩⟩
 case round=>
  clear bH aH a8 HB HS
  obtain⟨i,s,rfl,HK,HI,HA,bH,aH,a8,HB⟩:=hrel
  by_cases hlt:i< 6
  ·have d1:decide ((i:Int)< 6)=true:=decide_eq_true (by omega)
   have d2:(0≤(i:Int))=True:=eq_true (by omega)
   have d3:((i:Int)< 6)=True:=eq_true (by omega)
   have h6:=HL6.out
   obtain⟨ad,e,hx⟩:=Kd.at_int (Kd.R_reads' bH.out).2.2 (i:Int) (by omega) (by omega)
   subst e
   rw[Int.toNat_natCast]at hx
   have hd:L.drop i=rd L (i:Int) :: L.drop (i+1):=by
    rw[List.drop_eq_getElem_cons (by omega)]
    unfold rd
    rw[Int.toNat_natCast,List.getD_eq_getElem?_getD,List.getElem?_eq_getElem (by omega)]
    rfl
   have hA:=HA.out
   rw[hd]at hA
   generalize rd L (i:Int)=n at hx hA
   obtain⟨q,hq,hA⟩:=Option.bind_eq_some_iff.1 (show(note_Encode.putn k s n).bind (fun t=> note_Encode.puts k t (L.drop (i+1)))=some S from hA)
   have Hq:=am hq
   have HA2:=am hA
   have HLT:=am hlt
   have hi2:wrap64 ((i:Int)+1)=((i+1:Nat):Int):=by rw[IntWalk.wrap64_in _ (by omega)];omega
   clear hd HA hq hA hlt h6
   go_wp2_with (first|(go_at_call 17;refine(note_Encode.put_calls k bG s q n _ a8.out Hq.out).mono ?_;rintro e wq1 ⟨rfl,wz1,hb,hw⟩;have bE:Aside0 (Below w.heap.size w wq1):=⟨by rw[hw];exact below_set (below_step HB.out hb) bO.out⟩;have bI:Aside0 (wq1.heap[bK]?=some (.cells #[i6 aI,i6 aJ,i6 aK,i6 aG,i6 aL,i6 aM,i6 a9,i6 bA,i6 bB,.slice bF a7.length c0_9,.string aE,i6 aF] 28 (0,0))):=⟨by rw[hw];exact blk_far (blk_below aH.out hb) NE1_5 _⟩;have bJ:Aside0 (wq1.heap[bG]?=some (.cells #[.string q] 9 (0,0))):=⟨by rw[hw];exact blk_put (blk_below a8.out hb) 0 _ rfl⟩;have bU:=am (show Kd.R (Kd.int .i64) 3 wq1 ws5.heap.size (fun _=> True) (.slice _ L.length bT) L from(by rw[hw];exact Kd.R_set (Kd.R_below bH.out hb) (blk_below a8.out hb) (by decide) 0 _));clear bH;have bH:=bU;clear bU;clear hw hb HB aH a8;have HB:=bE;have aH:=bI;have a8:=bJ;clear bE bI bJ))
   obtain⟨k1,hk⟩:∃ k,6 - i=k+1:=⟨6 - i - 1,by have:=HLT.out;omega⟩
   go_roundg k1
   case measure=> have:=HK.out;omega
   case rel=> exact⟨i+1,q,by rw[hi2],⟨by omega⟩,⟨by have:=HLT.out;omega⟩,HA2,bH,aH,a8,HB⟩
  ·have d1:decide ((i:Int)< 6)=false:=decide_eq_false (by omega)
   have hs:s=S:=by
    have hA:=HA.out
    rw[List.drop_of_length_le (by have:=HL6.out;omega)]at hA
    exact Option.some.inj hA
   subst hs
   clear HA HI HK bH
   obtain⟨aN,aO,aP,aQ,aR,aS,aT,aU,aV,aW,aX,aY,aZ,a0,a1,a2,a3,a4,a5,a6,aC,aD,aA,aB⟩:=be12 aH.out
   have bC:wr.cell? ⟨bG,0,none⟩=some (.string s):=(blk_cell a8.out 0).trans rfl
   have bD:=blk_frozen a8.out 0
   have h:=HH.out
   by_cases g1:0< aG
   case neg=>
    rw[if_neg g1]at h
    have HZ:=am h
    have g2:decide (0< aG)=false:=decide_eq_false g1
    clear h HH g1
    go_wp2_with (first|(go_at_call 21;refine(seal_Seal.calls k 1 s r1 r2 _ HZ.out).mono ?_;rintro e bQ ⟨rfl,hb⟩;replace HB:=am (below_step (HB.out) hb);clear hb))
    go_ret2
    exact⟨rfl,(HB.out)⟩
   rw[if_pos g1]at h
   obtain⟨⟨id1,id2⟩,hid,h⟩:=Option.bind_eq_some_iff.1 h
   obtain⟨s1,hs1,h⟩:=Option.bind_eq_some_iff.1 h
   obtain⟨t1,ht1,h⟩:=Option.bind_eq_some_iff.1 h
   obtain⟨t2,ht2,h⟩:=Option.bind_eq_some_iff.1 h
   replace ht1:pack_Text.f k id1=some t1:=ht1
   by_cases hz:t1.size+t2.size≤9223372036854775807∧s1.size+(t1.size+t2.size)≤9223372036854775807
   case neg=> rw[if_neg hz]at h;cases h
   rw[if_pos hz]at h
   obtain⟨s2,hs2,h⟩:=Option.bind_eq_some_iff.1 h
   have HID:=am hid
   have HS1:=am hs1
   have HT1:=am ht1
   have HT2:=am ht2
   have HS2:=am hs2
   have HZ:=am h
   have g2:decide (0< aG)=true:=decide_eq_true g1
   have z1:(9223372036854775807< t1.size+t2.size)=False:=eq_false (by omega)
   have z2:(9223372036854775807< s1.size+(t1.size+t2.size))=False:=eq_false (by omega)
   clear h HH g1 hid hs1 ht1 ht2 hs2 hz
   go_wp2_with (first|(go_at_call 19;refine(ident_Show.calls k bA bB bF c0_9 a7 id1 id2 _ (Kd.C_below HR.out (HB.out)) HC.out (WH.below HW.out (HB.out)) HID.out).mono ?_;rintro e bR ⟨rfl,hb⟩;have bE:=am (below_step (HB.out) hb);have m1_:=am (blk_below aH.out hb);have m5_:=am (blk_below a8.out hb);clear HB;have HB:=bE;clear bE hb;clear aH aN aO aP aQ aR aS aT aU aV aW aX aY aZ a0 a1 a2 a3 a4 a5 a6 aC aD aA aB;have aH:=m1_;clear m1_;obtain⟨aN,aO,aP,aQ,aR,aS,aT,aU,aV,aW,aX,aY,aZ,a0,a1,a2,a3,a4,a5,a6,aC,aD,aA,aB⟩:=be12 aH.out;clear a8 bC bD;have a8:=m5_;clear m5_;have bC:bR.cell? ⟨bG,0,none⟩=some (.string s):=(blk_cell a8.out 0).trans rfl;have bD:=blk_frozen a8.out 0)|(go_at_call 17;refine(note_Encode.put_calls k bG s s1 a9 _ a8.out HS1.out).mono ?_;rintro e wq53 ⟨rfl,wz53,hb,hw⟩;have bE:Aside0 (Below w.heap.size w wq53):=⟨by rw[hw];exact below_set (below_step HB.out hb) bO.out⟩;have bI:Aside0 (wq53.heap[bK]?=some (.cells #[i6 aI,i6 aJ,i6 aK,i6 aG,i6 aL,i6 aM,i6 a9,i6 bA,i6 bB,.slice bF a7.length c0_9,.string aE,i6 aF] 28 (0,0))):=⟨by rw[hw];exact blk_far (blk_below aH.out hb) NE1_5 _⟩;have bJ:Aside0 (wq53.heap[bG]?=some (.cells #[.string s1] 9 (0,0))):=⟨by rw[hw];exact blk_put (blk_below a8.out hb) 0 _ rfl⟩;clear hw hb HB aH a8;(try clear aN aO aP aQ aR aS aT aU aV aW aX aY aZ a0 a1 a2 a3 a4 a5 a6 aC aD aA aB bC bD);have HB:=bE;have aH:=bI;have a8:=bJ;clear bE bI bJ;have aC:wq53.cell? ⟨bK,10,none⟩=some (.string aE):=(blk_cell aH.out 10).trans rfl;have aD:=blk_frozen aH.out 10;have aA:wq53.cell? ⟨bK,11,none⟩=some (i6 aF):=(blk_cell aH.out 11).trans rfl;have aB:=blk_frozen aH.out 11;have bC:wq53.cell? ⟨bG,0,none⟩=some (.string s1):=(blk_cell a8.out 0).trans rfl;have bD:=blk_frozen a8.out 0))
   go_region_law (first|(go_simp;go_at_call 20;(with_reducible refine(pack_Text.calls k id1 t1 _ HT1.out).mono ?_);rintro e wx ⟨rfl,hb⟩;have HD1:=am (below_step (below_drew1 (Below.refl wq53.heap.size wq53)) hb);have BX5:=am (blk_below a8.out HD1.out);have BX1:=am (blk_below aH.out HD1.out);have bY:wx.cell? ⟨bG,0,none⟩=some (.string s1):=(blk_cell BX5.out 0).trans rfl;have hy5:=blk_frozen BX5.out 0;have bZ:wx.cell? ⟨bK,10,none⟩=some (.string aE):=(blk_cell BX1.out 10).trans rfl;clear hb)|(go_simp;go_at_call 20;(with_reducible refine(pack_Text.calls k aE t2 _ HT2.out).mono ?_);rintro e wy ⟨rfl,hb⟩;have HD2:=am (below_step HD1.out hb);have BZ5:=am (blk_below a8.out HD2.out);have BZ1:=am (blk_below aH.out HD2.out);have hz5:wy.cell? ⟨bG,0,none⟩=some (.string s1):=(blk_cell BZ5.out 0).trans rfl;have hzf5:=blk_frozen BZ5.out 0;clear hb))
   all_goals
    obtain⟨wv,hwv⟩:∃ wv,wv=wy.setCell ⟨bG,0,none⟩ (.string (s1++(t1++t2))):=⟨_,rfl⟩
    rw[← hwv]
    have bE:Aside0 (Below w.heap.size w wv):=⟨by rw[hwv];exact below_set (below_step HB.out HD2.out) bO.out⟩
    have bI:Aside0 (wv.heap[bK]?=some (.cells #[i6 aI,i6 aJ,i6 aK,i6 aG,i6 aL,i6 aM,i6 a9,i6 bA,i6 bB,.slice bF a7.length c0_9,.string aE,i6 aF] 28 (0,0))):=⟨by rw[hwv];exact blk_far BZ1.out NE1_5 _⟩
    have bJ:Aside0 (wv.heap[bG]?=some (.cells #[.string (s1++(t1++t2))] 9 (0,0))):=⟨by rw[hwv];exact blk_put BZ5.out 0 _ rfl⟩
    clear hwv HB aH a8 bC bD aC aD aA aB bY hy5 bZ hz5 hzf5 BX1 BX5 BZ1 BZ5 HD1 HD2
    have HB:=bE
    have aH:=bI
    have a8:=bJ
    clear bE bI bJ
    have aA:wv.cell? ⟨bK,11,none⟩=some (i6 aF):=(blk_cell aH.out 11).trans rfl
    have aB:=blk_frozen aH.out 11
    have bC:wv.cell? ⟨bG,0,none⟩=some (.string (s1++(t1++t2))):=(blk_cell a8.out 0).trans rfl
    have bD:=blk_frozen a8.out 0
    go_wp2_with (first|(go_at_call 17;refine(note_Encode.put_calls k bG (s1++(t1++t2)) s2 aF _ a8.out HS2.out).mono ?_;rintro e wq67 ⟨rfl,wz67,hb,hw⟩;have bE:Aside0 (Below w.heap.size w wq67):=⟨by rw[hw];exact below_set (below_step HB.out hb) bO.out⟩;have bJ:Aside0 (wq67.heap[bG]?=some (.cells #[.string s2] 9 (0,0))):=⟨by rw[hw];exact blk_put (blk_below a8.out hb) 0 _ rfl⟩;clear hw hb HB a8 aH bC bD aA aB;have HB:=bE;have a8:=bJ;clear bE bJ;have bC:wq67.cell? ⟨bG,0,none⟩=some (.string s2):=(blk_cell a8.out 0).trans rfl;have bD:=blk_frozen a8.out 0)|(go_at_call 21;refine(seal_Seal.calls k 1 s2 r1 r2 _ HZ.out).mono ?_;rintro e bQ ⟨rfl,hb⟩;replace HB:=am (below_step (HB.out) hb);clear hb))
    go_ret2
    exact⟨rfl,(HB.out)⟩

/-! ### pack_TakeNumber: function 51 -/
mutual
def pack_TakeNumber.j0:Nat→ByteArray→Int→Bool→Option (Int×Int×Int)
 |0,_,_,_=> none
 |k+1,x0,x1,a9=> if a9=true then(some (0,0,2))else(pack_TakeNumber.l0 k x0 x1 0 0)
def pack_TakeNumber.l0:Nat→ByteArray→Int→Int→Int→Option (Int×Int×Int)
 |0,_,_,_,_=> none
 |k+1,x0,x1,x7,aD=> if aD< 10 then(if(wrap64 (x1+aD))=(x0.size:Int)then(some (0,0,10))else(if 0≤(wrap64 (x1+aD))then(if(wrap64 (x1+aD))< (x0.size:Int)then(if aD=9 then(pack_TakeNumber.j2 k x0 x1 x7 aD (bt x0 (wrap64 (x1+aD))) aD (decide ((bt x0 (wrap64 (x1+aD)))> 1)))else(pack_TakeNumber.j2 k x0 x1 x7 aD (bt x0 (wrap64 (x1+aD))) aD false))else(none))else(none)))else(some (0,0,11))
def pack_TakeNumber.j2:Nat→ByteArray→Int→Int→Int→Int→Int→Bool→Option (Int×Int×Int)
 |0,_,_,_,_,_,_,_=> none
 |k+1,x0,x1,x7,x8,x9,aD,bA=> if bA=true then(some (0,0,11))else(if 0≤(IntKind.u64.wrap (wrap64 (7 * x8)))then(if x9≥128 then(pack_TakeNumber.l0 k x0 x1 (Go.bits .or .u64 x7 (shl .u64 (IntKind.u64.wrap (Go.bits .and .u8 x9 127)) (IntKind.u64.wrap (wrap64 (7 * x8))))) (wrap64 (aD+1)))else(if x9=0 then(if x8> 0 then(some (0,0,11))else(some (Go.bits .or .u64 x7 (shl .u64 (IntKind.u64.wrap (Go.bits .and .u8 x9 127)) (IntKind.u64.wrap (wrap64 (7 * x8)))),wrap64 ((wrap64 (x1+x8))+1),0)))else(some (Go.bits .or .u64 x7 (shl .u64 (IntKind.u64.wrap (Go.bits .and .u8 x9 127)) (IntKind.u64.wrap (wrap64 (7 * x8)))),wrap64 ((wrap64 (x1+x8))+1),0))))else(none))
end
def pack_TakeNumber.f (k:Nat) (a0:ByteArray) (a1:Int):Option (Int×Int×Int):=if a1< 0 then(pack_TakeNumber.j0 k a0 a1 true)else(pack_TakeNumber.j0 k a0 a1 (decide (a1> (a0.size:Int))))
theorem pack_TakeNumber.mono_l:∀ k,(∀ y0 y1 y2,LeO (pack_TakeNumber.j0 k y0 y1 y2) (pack_TakeNumber.j0 (k+1) y0 y1 y2))∧(∀ y0 y1 y2 y3,LeO (pack_TakeNumber.l0 k y0 y1 y2 y3) (pack_TakeNumber.l0 (k+1) y0 y1 y2 y3))∧(∀ y0 y1 y2 y3 y4 y5 y6,LeO (pack_TakeNumber.j2 k y0 y1 y2 y3 y4 y5 y6) (pack_TakeNumber.j2 (k+1) y0 y1 y2 y3 y4 y5 y6))
 |0=> ⟨fun _ _ _ r h=> by simp[pack_TakeNumber.j0]at h,fun _ _ _ _ r h=> by simp[pack_TakeNumber.l0]at h,fun _ _ _ _ _ _ _ r h=> by simp[pack_TakeNumber.j2]at h⟩
 |k+1=> by
  obtain⟨ih0,ih1,ih2⟩:=pack_TakeNumber.mono_l k
  refine⟨?_,?_,?_⟩
  ·intro y0 y1 y2
   unfold pack_TakeNumber.j0
   repeat' with_reducible first|apply ih0|apply ih1|apply ih2|apply LeO.refl|apply LeO.none|refine LeO.ite ?_ ?_|refine LeO.bind ?_ (fun _=> ?_)
  ·intro y0 y1 y2 y3
   unfold pack_TakeNumber.l0
   repeat' with_reducible first|apply ih0|apply ih1|apply ih2|apply LeO.refl|apply LeO.none|refine LeO.ite ?_ ?_|refine LeO.bind ?_ (fun _=> ?_)
  ·intro y0 y1 y2 y3 y4 y5 y6
   unfold pack_TakeNumber.j2
   repeat' with_reducible first|apply ih0|apply ih1|apply ih2|apply LeO.refl|apply LeO.none|refine LeO.ite ?_ ?_|refine LeO.bind ?_ (fun _=> ?_)
theorem pack_TakeNumber.mono:∀ a0 a1 k,LeO (pack_TakeNumber.f k a0 a1) (pack_TakeNumber.f (k+1) a0 a1):=by
 intro a0 a1 k
 obtain⟨ih0,ih1,ih2⟩:=pack_TakeNumber.mono_l k
 unfold pack_TakeNumber.f
 repeat' with_reducible first|apply ih0|apply ih1|apply ih2|apply LeO.refl|apply LeO.none|refine LeO.ite ?_ ?_|refine LeO.bind ?_ (fun _=> ?_)
set_option maxHeartbeats 8000000 in
set_option maxRecDepth 100000 in
theorem pack_TakeNumber.calls (k:Nat) (a0:ByteArray) (a1:Int) (r1:Int) (r2:Int) (r3:Int) (w:World) (h:pack_TakeNumber.f k a0 a1=some (r1,r2,r3)) :
  Calls Tryz.prog 51 #[.string a0,i6 a1] w fun e w'=> e=.returned (.tuple #[.int .u64 r1,i6 r2,i6 r3])∧Drawn0 w w':=by
 unfold pack_TakeNumber.f at h
 have H:=h
 clear h
 have HC3:=am H
 clear H
 go_enter Tryz.func51,Tryz.ntmps51
 go_upto_region 1 with(fail)
 go_cut [17] (fun v17 wc=> ∃ (kq:Nat) (aE:Bool),v17=.bool aE∧Aside0 (pack_TakeNumber.j0 kq a0 a1 aE=some (r1,r2,r3))∧Aside0 (kq≤k)∧Drawn0 w wc)
 case first=>
  have H:=HC3.out
  clear HC3
  by_cases c4:a1< 0
  ·rw[if_pos c4]at H
   have aZ:=decide_eq_true c4
   clear c4
   (skip)
   have H':=am H
   clear H
   go_wp2
   go_meet
   case rel=> exact⟨_,(true),(by rfl),H',⟨by omega⟩,Drawn0.refl _⟩
  ·rw[if_neg c4]at H
   have aZ:=decide_eq_false c4
   clear c4
   (skip)
   have H':=am H
   clear H
   go_wp2
   go_meet
   case rel=> exact⟨_,(decide (a1> (a0.size:Int))),(by rfl),H',⟨by omega⟩,Drawn0.refl _⟩
 case rest=>
  clear HC3
  obtain⟨kq,aE,rfl,HA,aG,⟨mc2,rfl⟩⟩:=hcut
  cases kq with
  |zero=> exact absurd HA.out (by simp[pack_TakeNumber.j0])
  |succ a2=>
   have H:=HA.out
   clear HA
   simp only[pack_TakeNumber.j0]at H
   by_cases c5:aE=true
   ·subst c5
    have H1:(some (0,0,2))=some (r1,r2,r3):=by rw[if_pos rfl]at H;exact H
    clear H
    have H:=H1
    clear H1
    simp only[Option.some.injEq,Prod.mk.injEq]at H
    obtain⟨rfl,rfl,rfl⟩:=H
    go_wp2
    go_ret3
    exact⟨by rfl,by repeat(first|exact Drawn0.refl _|apply Drawn0.step)⟩
   ·replace c5:=Bool.eq_false_iff.mpr c5
    subst c5
    have H1:(pack_TakeNumber.l0 a2 a0 a1 0 0)=some (r1,r2,r3):=by rw[if_neg (show ¬ (false=true)by decide)]at H;exact H
    clear H
    have H:=H1
    clear H1
    have H':=am H
    clear H
    go_wp2
    go_loopg [7,18] a2 (fun kq v7 v18 w'=> ∃ (aB:Int) (aA:Int),v7=.int .u64 aB∧v18=i6 aA∧Aside0 (pack_TakeNumber.l0 kq a0 a1 aB aA=some (r1,r2,r3))∧Aside0 (kq≤a2)∧Drawn0 w w')
    case atStart=> exact⟨(0),(0),(by rfl),(by rfl),H',⟨Nat.le_refl _⟩,by repeat(first|exact Drawn0.refl _|apply Drawn0.step)⟩
    case round=>
     clear H'
     obtain⟨aB,aA,rfl,rfl,HA,aH,⟨m2,rfl⟩⟩:=hrel
     cases gk with
     |zero=> exact absurd HA.out (by simp[pack_TakeNumber.l0])
     |succ k2=>
      have H:=HA.out
      clear HA
      simp only[pack_TakeNumber.l0]at H
      by_cases c6:aA< 10
      ·rw[if_pos c6]at H
       have aP:=decide_eq_true c6
       clear c6
       by_cases c7:(wrap64 (a1+aA))=(a0.size:Int)
       ·rw[if_pos c7]at H
        have aI:=beq_iff_eq.mpr c7
        have aJ:=bne_eq_false_iff_eq.mpr c7
        clear c7
        simp only[Option.some.injEq,Prod.mk.injEq]at H
        obtain⟨rfl,rfl,rfl⟩:=H
        go_wp2
        go_ret3
        exact⟨by rfl,by repeat(first|exact Drawn0.refl _|apply Drawn0.step)⟩
       ·rw[if_neg c7]at H
        have aI:=beq_eq_false_iff_ne.mpr c7
        have aJ:=bne_iff_ne.mpr c7
        obtain⟨ji8,hji8⟩:∃ j_:Int,(wrap64 (a1+aA))=j_:=⟨_,rfl⟩
        replace H:(if 0≤(ji8)then(if(ji8)< (a0.size:Int)then(if aA=9 then(pack_TakeNumber.j2 k2 a0 a1 aB aA (bt a0 (ji8)) aA (decide ((bt a0 (ji8))> 1)))else(pack_TakeNumber.j2 k2 a0 a1 aB aA (bt a0 (ji8)) aA false))else(none))else(none))=some (r1,r2,r3):=by(rw[hji8]at H;exact H)
        (try rw[hji8]at aI)
        (try rw[hji8]at aJ)
        have hji8w:(IntKind.i64.wrap (a1+aA))=ji8:=(i64_w _).trans hji8
        by_cases c9:0≤(ji8)
        ·rw[if_pos c9]at H
         have a3:=decide_eq_true c9
         clear c9
         by_cases c10:(ji8)< (a0.size:Int)
         ·rw[if_pos c10]at H
          have aQ:=decide_eq_true c10
          clear c10
          have HC12:=am H
          clear H
          have a4:0≤((ji8):Int):=of_decide_eq_true (by(with_reducible assumption))
          have a5:(ji8)< (a0.size:Int):=of_decide_eq_true (by(with_reducible assumption))
          have a6:=bt_at a0 (ji8)
          replace a4:=eq_true a4
          replace a5:=eq_true a5
          go_upto_region 10 with(fail)
          go_cut [37] (fun v37 wc=> ∃ (kq:Nat) (aC:Bool),v37=.bool aC∧Aside0 (pack_TakeNumber.j2 kq a0 a1 aB aA (bt a0 (ji8)) aA aC=some (r1,r2,r3))∧Aside0 (kq≤k2)∧Drawn0 w wc)
          case first=>
           have H:=HC12.out
           clear HC12
           by_cases aK:aA=9
           ·rw[if_pos aK]at H
            have aR:=beq_iff_eq.mpr aK
            have aS:=bne_eq_false_iff_eq.mpr aK
            clear aK
            (skip)
            have H':=am H
            clear H
            go_wp2
            (go_meet)
            case rel=> first|(exact⟨_,(decide ((bt a0 (ji8))> 1)),(by first|rfl|(simp;done)|(simp only[← hji8]<;> (first|rfl|(simp;done)|(simp;exact(fun(l_:List UInt8)=> show l_.isEmpty=!(l_ !=[])from(by cases l_<;> rfl)) _)))|(simp[*];done)),H',⟨by have:=aG.out;have:=aH.out;omega⟩,by repeat(first|exact Drawn0.refl _|apply Drawn0.step)⟩)|(exact⟨_,(decide ((bt a0 (ji8))> 1)),(by first|rfl|(simp;done)|(simp only[← hji8]<;> (first|rfl|(simp;done)|(simp;exact(fun(l_:List UInt8)=> show l_.isEmpty=!(l_ !=[])from(by cases l_<;> rfl)) _)))|(simp[*];done)),(by simp only[← hji8]at H' ⊢;exact H'),⟨by have:=aG.out;have:=aH.out;first|omega|exact Nat.le_refl _⟩,by repeat(first|exact Drawn0.refl _|apply Drawn0.step)⟩)
           ·rw[if_neg aK]at H
            have aR:=beq_eq_false_iff_ne.mpr aK
            have aS:=bne_iff_ne.mpr aK
            (skip)
            have H':=am H
            clear H
            go_wp2
            (go_meet)
            case rel=> first|(exact⟨_,(false),(by rfl),H',⟨by have:=aG.out;have:=aH.out;omega⟩,by repeat(first|exact Drawn0.refl _|apply Drawn0.step)⟩)|(exact⟨_,(false),(by first|rfl|(simp;done)|(simp[*];done)),(by simp only[← hji8]at H' ⊢;exact H'),⟨by have:=aG.out;have:=aH.out;first|omega|exact Nat.le_refl _⟩,by repeat(first|exact Drawn0.refl _|apply Drawn0.step)⟩)
          case rest=>
           clear HC12 aP c7 aI aJ a3 aQ a4 a5 a6
           obtain⟨kq,aC,rfl,HA,aL,⟨mc11,rfl⟩⟩:=hcut
           cases kq with
           |zero=> exact absurd HA.out (by simp[pack_TakeNumber.j2])
           |succ aF=>
            have H:=HA.out
            clear HA
            simp only[pack_TakeNumber.j2]at H
            by_cases aY:aC=true
            ·subst aY
             have H1:(some (0,0,11))=some (r1,r2,r3):=by rw[if_pos rfl]at H;exact H
             clear H
             have H:=H1
             clear H1
             simp only[Option.some.injEq,Prod.mk.injEq]at H
             obtain⟨rfl,rfl,rfl⟩:=H
             go_wp2
             go_ret3
             exact⟨by first|rfl|(simp;done)|(simp only[← hji8]<;> (first|rfl|(simp;done)|(simp;exact(fun(l_:List UInt8)=> show l_.isEmpty=!(l_ !=[])from(by cases l_<;> rfl)) _)))|(simp[*];done),by repeat(first|exact Drawn0.refl _|apply Drawn0.step)⟩
            ·replace aY:=Bool.eq_false_iff.mpr aY
             subst aY
             have H1:(if 0≤(IntKind.u64.wrap (wrap64 (7 * aA)))then(if(bt a0 (ji8))≥128 then(pack_TakeNumber.l0 aF a0 a1 (Go.bits .or .u64 aB (shl .u64 (IntKind.u64.wrap (Go.bits .and .u8 (bt a0 (ji8)) 127)) (IntKind.u64.wrap (wrap64 (7 * aA))))) (wrap64 (aA+1)))else(if(bt a0 (ji8))=0 then(if aA> 0 then(some (0,0,11))else(some (Go.bits .or .u64 aB (shl .u64 (IntKind.u64.wrap (Go.bits .and .u8 (bt a0 (ji8)) 127)) (IntKind.u64.wrap (wrap64 (7 * aA)))),wrap64 ((wrap64 (a1+aA))+1),0)))else(some (Go.bits .or .u64 aB (shl .u64 (IntKind.u64.wrap (Go.bits .and .u8 (bt a0 (ji8)) 127)) (IntKind.u64.wrap (wrap64 (7 * aA)))),wrap64 ((wrap64 (a1+aA))+1),0))))else(none))=some (r1,r2,r3):=by rw[if_neg (show ¬ (false=true)by decide)]at H;exact H
             clear H
             have H:=H1
             clear H1
             obtain⟨ji15,hji15⟩:∃ j_:Int,(IntKind.u64.wrap (wrap64 (7 * aA)))=j_:=⟨_,rfl⟩
             replace H:(if 0≤(ji15)then(if(bt a0 (ji8))≥128 then(pack_TakeNumber.l0 aF a0 a1 (Go.bits .or .u64 aB (shl .u64 (IntKind.u64.wrap (Go.bits .and .u8 (bt a0 (ji8)) 127)) (ji15))) (wrap64 (aA+1)))else(if(bt a0 (ji8))=0 then(if aA> 0 then(some (0,0,11))else(some (Go.bits .or .u64 aB (shl .u64 (IntKind.u64.wrap (Go.bits .and .u8 (bt a0 (ji8)) 127)) (ji15)),wrap64 ((wrap64 (a1+aA))+1),0)))else(some (Go.bits .or .u64 aB (shl .u64 (IntKind.u64.wrap (Go.bits .and .u8 (bt a0 (ji8)) 127)) (ji15)),wrap64 ((wrap64 (a1+aA))+1),0))))else(none))=some (r1,r2,r3):=by(rw[hji15]at H;exact H)
             by_cases aT:0≤(ji15)
             ·rw[if_pos aT]at H
              have a7:=eq_true aT
              have a8:=decide_eq_true aT
              clear aT
              obtain⟨ji17,hji17⟩:∃ j_:Int,(shl .u64 (IntKind.u64.wrap (Go.bits .and .u8 (bt a0 (ji8)) 127)) (ji15))=j_:=⟨_,rfl⟩
              replace H:(if(bt a0 (ji8))≥128 then(pack_TakeNumber.l0 aF a0 a1 (Go.bits .or .u64 aB (ji17)) (wrap64 (aA+1)))else(if(bt a0 (ji8))=0 then(if aA> 0 then(some (0,0,11))else(some (Go.bits .or .u64 aB (ji17),wrap64 ((wrap64 (a1+aA))+1),0)))else(some (Go.bits .or .u64 aB (ji17),wrap64 ((wrap64 (a1+aA))+1),0))))=some (r1,r2,r3):=by(rw[hji17]at H;exact H)
              have hji17_:(IntKind.u64.wrap ((IntKind.u64.wrap (Go.bits .and .u8 (bt a0 (ji8)) 127)) * 2 ^ min (ji15).toNat 64))=ji17:=hji17
              have hji17z:(ji15)≤64→(IntKind.u64.wrap ((IntKind.u64.wrap (Go.bits .and .u8 (bt a0 (ji8)) 127)) * 2 ^ (ji15).toNat))=ji17:=shl_small hji17
              by_cases aN:(bt a0 (ji8))≥128
              ·rw[if_pos aN]at H
               have aU:decide (128≤(bt a0 (ji8)))=true:=decide_eq_true aN
               clear aN
               have H':=am H
               clear H
               go_wp2
               (go_roundg aF)
               case measure=> have:=aG.out;have:=aH.out;have:=aL.out;omega
               case rel=> first|(exact⟨(Go.bits .or .u64 aB (ji17)),(wrap64 (aA+1)),(by first|rfl|(simp;done)|(simp only[← hji17]<;> (first|rfl|(simp;done)|(simp;exact(fun(l_:List UInt8)=> show l_.isEmpty=!(l_ !=[])from(by cases l_<;> rfl)) _)))|(simp[*];done)),(by rfl),H',⟨by have:=aG.out;have:=aH.out;have:=aL.out;omega⟩,by repeat(first|exact Drawn0.refl _|apply Drawn0.step)⟩)|(exact⟨(Go.bits .or .u64 aB (ji17)),(wrap64 (aA+1)),(by first|rfl|(simp;done)|(simp only[← hji17]<;> (first|rfl|(simp;done)|(simp;exact(fun(l_:List UInt8)=> show l_.isEmpty=!(l_ !=[])from(by cases l_<;> rfl)) _)))|(simp[*];done)),(by first|rfl|(simp;done)|(simp[*];done)),(by simp only[← hji8,← hji15,← hji17]at H' ⊢;exact H'),⟨by have:=aG.out;have:=aH.out;have:=aL.out;omega⟩,by repeat(first|exact Drawn0.refl _|apply Drawn0.step)⟩)
              ·rw[if_neg aN]at H
               have aU:decide (128≤(bt a0 (ji8)))=false:=decide_eq_false aN
               clear aN
               by_cases aM:(bt a0 (ji8))=0
               ·rw[if_pos aM]at H
                have aV:=beq_iff_eq.mpr aM
                have aW:=bne_eq_false_iff_eq.mpr aM
                clear aM
                by_cases aO:aA> 0
                ·rw[if_pos aO]at H
                 have aX:decide (0< aA)=true:=decide_eq_true aO
                 clear aO
                 simp only[Option.some.injEq,Prod.mk.injEq]at H
                 obtain⟨rfl,rfl,rfl⟩:=H
                 go_wp2
                 go_ret3
                 exact⟨by first|rfl|(simp;done)|(simp only[← hji8,← hji15,← hji17]<;> (first|rfl|(simp;done)|(simp;exact(fun(l_:List UInt8)=> show l_.isEmpty=!(l_ !=[])from(by cases l_<;> rfl)) _)))|(simp[*];done),by repeat(first|exact Drawn0.refl _|apply Drawn0.step)⟩
                ·rw[if_neg aO]at H
                 have aX:decide (0< aA)=false:=decide_eq_false aO
                 clear aO
                 simp only[Option.some.injEq,Prod.mk.injEq]at H
                 obtain⟨rfl,rfl,rfl⟩:=H
                 go_wp2
                 go_ret3
                 exact⟨by first|rfl|(simp;done)|(simp only[← hji8,← hji15,← hji17]<;> (rfl))|(simp[*];done),by repeat(first|exact Drawn0.refl _|apply Drawn0.step)⟩
               ·rw[if_neg aM]at H
                have aV:=beq_eq_false_iff_ne.mpr aM
                have aW:=bne_iff_ne.mpr aM
                simp only[Option.some.injEq,Prod.mk.injEq]at H
                obtain⟨rfl,rfl,rfl⟩:=H
                go_wp2
                go_ret3
                exact⟨by first|rfl|(simp;done)|(simp only[← hji8,← hji15,← hji17]<;> (rfl))|(simp[*];done),by repeat(first|exact Drawn0.refl _|apply Drawn0.step)⟩
             ·rw[if_neg aT]at H
              exact absurd H (by simp)
         ·rw[if_neg c10]at H
          exact absurd H (by simp)
        ·rw[if_neg c9]at H
         exact absurd H (by simp)
      ·rw[if_neg c6]at H
       have aP:=decide_eq_false c6
       clear c6
       simp only[Option.some.injEq,Prod.mk.injEq]at H
       obtain⟨rfl,rfl,rfl⟩:=H
       go_wp2
       go_ret3
       exact⟨by rfl,by repeat(first|exact Drawn0.refl _|apply Drawn0.step)⟩

/-! ### seal_Open: function 29 -/
def seal_Open.j0:Nat→ByteArray→Int→Int→Bool→Option (ByteArray×Int×Int)
 |0,_,_,_,_=> none
 |k+1,x0,x1,x2,cN=> if cN=true then(some ((⟨#[]⟩:ByteArray),0,2))else(if x1=(x0.size:Int)then(some ((⟨#[]⟩:ByteArray),0,10))else(if 0≤x1 then(if x1< (x0.size:Int)then(if(bt x0 x1)=231 then(if(wrap64 (x1+1))=(x0.size:Int)then(some ((⟨#[]⟩:ByteArray),0,10))else(if 0≤(wrap64 (x1+1))then(if(wrap64 (x1+1))< (x0.size:Int)then(if(wrap64 (bt x0 (wrap64 (x1+1))))=x2 then((pack_TakeNumber.f k x0 (wrap64 (x1+2))).bind fun aA=> (if aA.2.2=0 then(if aA.1> 30000 then(some ((⟨#[]⟩:ByteArray),0,3))else(if(wrap64 ((wrap64 (aA.1))+8))> (wrap64 ((x0.size:Int) - aA.2.1))then(some ((⟨#[]⟩:ByteArray),0,10))else(if x1≤(wrap64 (aA.2.1+(wrap64 (aA.1))))then(if(wrap64 (aA.2.1+(wrap64 (aA.1))))≤(x0.size:Int)then((seal_Sum.f (([x0.extract (x1:Int).toNat ((wrap64 (aA.2.1+(wrap64 (aA.1)))):Int).toNat]:List ByteArray))).bind fun aE=> ((seal_eight.f aE).bind fun aG=> (if 0≤(wrap64 (aA.2.1+(wrap64 (aA.1))))then(if(wrap64 (aA.2.1+(wrap64 (aA.1))))≤(wrap64 ((wrap64 (aA.2.1+(wrap64 (aA.1))))+8))then(if(wrap64 ((wrap64 (aA.2.1+(wrap64 (aA.1))))+8))≤(x0.size:Int)then(if aG.toList=(x0.extract ((wrap64 (aA.2.1+(wrap64 (aA.1)))):Int).toNat ((wrap64 ((wrap64 (aA.2.1+(wrap64 (aA.1))))+8)):Int).toNat).toList then(if 0≤aA.2.1 then(if aA.2.1≤(wrap64 (aA.2.1+(wrap64 (aA.1))))then(some (x0.extract (aA.2.1:Int).toNat ((wrap64 (aA.2.1+(wrap64 (aA.1)))):Int).toNat,wrap64 ((wrap64 (aA.2.1+(wrap64 (aA.1))))+8),0))else(none))else(none))else(some ((⟨#[]⟩:ByteArray),0,22)))else(none))else(none))else(none))))else(none))else(none))))else(some ((⟨#[]⟩:ByteArray),0,aA.2.2))))else(some ((⟨#[]⟩:ByteArray),0,21)))else(none))else(none)))else(some ((⟨#[]⟩:ByteArray),0,20)))else(none))else(none)))
def seal_Open.f (k:Nat) (a0:ByteArray) (a1:Int) (a2:Int):Option (ByteArray×Int×Int):=if a1< 0 then(seal_Open.j0 k a0 a1 a2 true)else(if a1> (a0.size:Int)then(seal_Open.j0 k a0 a1 a2 true)else(if a2< 0 then(seal_Open.j0 k a0 a1 a2 true)else(seal_Open.j0 k a0 a1 a2 (decide (a2> 255)))))
theorem seal_Open.mono_l:∀ k,(∀ y0 y1 y2 y3,LeO (seal_Open.j0 k y0 y1 y2 y3) (seal_Open.j0 (k+1) y0 y1 y2 y3))
 |0=> fun _ _ _ _ r h=> by simp[seal_Open.j0]at h
 |k+1=> by
  have ih0:=seal_Open.mono_l k
  ·intro y0 y1 y2 y3
   unfold seal_Open.j0
   repeat' with_reducible first|apply ih0|apply pack_TakeNumber.mono|apply LeO.refl|apply LeO.none|refine LeO.ite ?_ ?_|refine LeO.bind ?_ (fun _=> ?_)
theorem seal_Open.mono:∀ a0 a1 a2 k,LeO (seal_Open.f k a0 a1 a2) (seal_Open.f (k+1) a0 a1 a2):=by
 intro a0 a1 a2 k
 have ih0:=seal_Open.mono_l k
 unfold seal_Open.f
 repeat' with_reducible first|apply ih0|apply pack_TakeNumber.mono|apply LeO.refl|apply LeO.none|refine LeO.ite ?_ ?_|refine LeO.bind ?_ (fun _=> ?_)
def seal_Open.T19:Bool×List (List Nat×List Nat):=(true,[([],[]),([],[]),([],[]),([0,1,2],[0,1,2]),([3],[3]),([4],[4]),([5,5],[5]),([],[]),([],[]),([],[]),([9],[9]),([7,8,10],[7,8,10]),([6,11],[6,11])])
def seal_Open.B19:List Nat:=[0,0,0,7,15,31,63,0,0,0,512,1920,4095]
theorem seal_Open.tab19:rtab .any (opsOf Tryz.f29 19)=seal_Open.T19:=by kernel_rfl
theorem seal_Open.bits19:waitsOk seal_Open.T19.2 seal_Open.B19=true:=by kernel_rfl
set_option maxHeartbeats 8000000 in
set_option maxRecDepth 100000 in
theorem seal_Open.calls (k:Nat) (a0:ByteArray) (a1:Int) (a2:Int) (r1:ByteArray) (r2:Int) (r3:Int) (w:World) (h:seal_Open.f k a0 a1 a2=some (r1,r2,r3)) :
  Calls Tryz.prog 29 #[.string a0,i6 a1,i6 a2] w fun e w'=> e=.returned (.tuple #[.string r1,i6 r2,i6 r3])∧Below w.heap.size w w':=by
 have HB:=am (Below.refl w.heap.size w)
 unfold seal_Open.f at h
 have H:=h
 clear h
 have HC4:=am H
 clear H
 go_enter Tryz.func29,Tryz.ntmps29
 go_upto_region 1 with(fail)
 go_cut [13] (fun v13 wc=> ∃ (kq:Nat) (aN:Bool),v13=.bool aN∧Aside0 (seal_Open.j0 kq a0 a1 a2 aN=some (r1,r2,r3))∧Aside0 (kq≤k)∧Aside0 (Below w.heap.size w wc))
 case first=>
  have H:=HC4.out
  clear HC4
  by_cases c5:a1< 0
  ·rw[if_pos c5]at H
   have bW:=decide_eq_true c5
   clear c5
   (skip)
   have H':=am H
   clear H
   go_wp2
   go_meet
   case rel=> exact⟨_,(true),(by rfl),H',⟨by omega⟩,⟨HB.out⟩⟩
  ·rw[if_neg c5]at H
   have bW:=decide_eq_false c5
   clear c5
   (skip)
   by_cases c6:a1> (a0.size:Int)
   ·rw[if_pos c6]at H
    have bX:decide ((a0.size:Int)< a1)=true:=decide_eq_true c6
    clear c6
    have H':=am H
    clear H
    go_wp2
    go_meet
    case rel=> exact⟨_,(true),(by rfl),H',⟨by omega⟩,⟨HB.out⟩⟩
   ·rw[if_neg c6]at H
    have bX:decide ((a0.size:Int)< a1)=false:=decide_eq_false c6
    clear c6
    by_cases c7:a2< 0
    ·rw[if_pos c7]at H
     have bY:=decide_eq_true c7
     clear c7
     have H':=am H
     clear H
     go_wp2
     go_meet
     case rel=> exact⟨_,(true),(by rfl),H',⟨by omega⟩,⟨HB.out⟩⟩
    ·rw[if_neg c7]at H
     have bY:=decide_eq_false c7
     clear c7
     have H':=am H
     clear H
     go_wp2
     go_meet
     case rel=> exact⟨_,(decide (a2> 255)),(by rfl),H',⟨by omega⟩,⟨HB.out⟩⟩
 case rest=>
  clear HC4
  obtain⟨kq,aN,rfl,HA,cO,HB⟩:=hcut
  cases kq with
  |zero=> exact absurd HA.out (by simp[seal_Open.j0])
  |succ aT=>
   have H:=HA.out
   clear HA
   simp only[seal_Open.j0]at H
   by_cases c8:aN=true
   ·subst c8
    have H1:(some ((⟨#[]⟩:ByteArray),0,2))=some (r1,r2,r3):=by rw[if_pos rfl]at H;exact H
    clear H
    have H:=H1
    clear H1
    simp only[Option.some.injEq,Prod.mk.injEq]at H
    obtain⟨rfl,rfl,rfl⟩:=H
    go_wp2
    go_ret3
    exact⟨by rfl,HB.out⟩
   ·replace c8:=Bool.eq_false_iff.mpr c8
    subst c8
    have H1:(if a1=(a0.size:Int)then(some ((⟨#[]⟩:ByteArray),0,10))else(if 0≤a1 then(if a1< (a0.size:Int)then(if(bt a0 a1)=231 then(if(wrap64 (a1+1))=(a0.size:Int)then(some ((⟨#[]⟩:ByteArray),0,10))else(if 0≤(wrap64 (a1+1))then(if(wrap64 (a1+1))< (a0.size:Int)then(if(wrap64 (bt a0 (wrap64 (a1+1))))=a2 then((pack_TakeNumber.f aT a0 (wrap64 (a1+2))).bind fun aA=> (if aA.2.2=0 then(if aA.1> 30000 then(some ((⟨#[]⟩:ByteArray),0,3))else(if(wrap64 ((wrap64 (aA.1))+8))> (wrap64 ((a0.size:Int) - aA.2.1))then(some ((⟨#[]⟩:ByteArray),0,10))else(if a1≤(wrap64 (aA.2.1+(wrap64 (aA.1))))then(if(wrap64 (aA.2.1+(wrap64 (aA.1))))≤(a0.size:Int)then((seal_Sum.f (([a0.extract (a1:Int).toNat ((wrap64 (aA.2.1+(wrap64 (aA.1)))):Int).toNat]:List ByteArray))).bind fun aE=> ((seal_eight.f aE).bind fun aG=> (if 0≤(wrap64 (aA.2.1+(wrap64 (aA.1))))then(if(wrap64 (aA.2.1+(wrap64 (aA.1))))≤(wrap64 ((wrap64 (aA.2.1+(wrap64 (aA.1))))+8))then(if(wrap64 ((wrap64 (aA.2.1+(wrap64 (aA.1))))+8))≤(a0.size:Int)then(if aG.toList=(a0.extract ((wrap64 (aA.2.1+(wrap64 (aA.1)))):Int).toNat ((wrap64 ((wrap64 (aA.2.1+(wrap64 (aA.1))))+8)):Int).toNat).toList then(if 0≤aA.2.1 then(if aA.2.1≤(wrap64 (aA.2.1+(wrap64 (aA.1))))then(some (a0.extract (aA.2.1:Int).toNat ((wrap64 (aA.2.1+(wrap64 (aA.1)))):Int).toNat,wrap64 ((wrap64 (aA.2.1+(wrap64 (aA.1))))+8),0))else(none))else(none))else(some ((⟨#[]⟩:ByteArray),0,22)))else(none))else(none))else(none))))else(none))else(none))))else(some ((⟨#[]⟩:ByteArray),0,aA.2.2))))else(some ((⟨#[]⟩:ByteArray),0,21)))else(none))else(none)))else(some ((⟨#[]⟩:ByteArray),0,20)))else(none))else(none)))=some (r1,r2,r3):=by rw[if_neg (show ¬ (false=true)by decide)]at H;exact H
    clear H
    have H:=H1
    clear H1
    by_cases c9:a1=(a0.size:Int)
    ·rw[if_pos c9]at H
     have bZ:=beq_iff_eq.mpr c9
     have b0:=bne_eq_false_iff_eq.mpr c9
     clear c9
     simp only[Option.some.injEq,Prod.mk.injEq]at H
     obtain⟨rfl,rfl,rfl⟩:=H
     go_wp2
     go_ret3
     exact⟨by rfl,HB.out⟩
    ·rw[if_neg c9]at H
     have bZ:=beq_eq_false_iff_ne.mpr c9
     have b0:=bne_iff_ne.mpr c9
     by_cases c10:0≤a1
     ·rw[if_pos c10]at H
      have b7:=decide_eq_true c10
      clear c10
      by_cases bR:a1< (a0.size:Int)
      ·rw[if_pos bR]at H
       have b8:=decide_eq_true bR
       clear bR
       by_cases aU:(bt a0 a1)=231
       ·rw[if_pos aU]at H
        have a5:=beq_iff_eq.mpr aU
        have a6:=bne_eq_false_iff_eq.mpr aU
        clear aU
        by_cases aV:(wrap64 (a1+1))=(a0.size:Int)
        ·rw[if_pos aV]at H
         have aR:=beq_iff_eq.mpr aV
         have aS:=bne_eq_false_iff_eq.mpr aV
         clear aV
         simp only[Option.some.injEq,Prod.mk.injEq]at H
         obtain⟨rfl,rfl,rfl⟩:=H
         have aH:0≤(a1:Int):=of_decide_eq_true (by(with_reducible assumption))
         have aI:a1< (a0.size:Int):=of_decide_eq_true (by(with_reducible assumption))
         have aM:=bt_at a0 a1
         replace aH:=eq_true aH
         replace aI:=eq_true aI
         go_wp2
         go_ret3
         exact⟨by rfl,HB.out⟩
        ·rw[if_neg aV]at H
         have aR:=beq_eq_false_iff_ne.mpr aV
         have aS:=bne_iff_ne.mpr aV
         obtain⟨ji15,hji15⟩:∃ j_:Int,(wrap64 (a1+1))=j_:=⟨_,rfl⟩
         replace H:(if 0≤(ji15)then(if(ji15)< (a0.size:Int)then(if(wrap64 (bt a0 (ji15)))=a2 then((pack_TakeNumber.f aT a0 (wrap64 (a1+2))).bind fun aA=> (if aA.2.2=0 then(if aA.1> 30000 then(some ((⟨#[]⟩:ByteArray),0,3))else(if(wrap64 ((wrap64 (aA.1))+8))> (wrap64 ((a0.size:Int) - aA.2.1))then(some ((⟨#[]⟩:ByteArray),0,10))else(if a1≤(wrap64 (aA.2.1+(wrap64 (aA.1))))then(if(wrap64 (aA.2.1+(wrap64 (aA.1))))≤(a0.size:Int)then((seal_Sum.f (([a0.extract (a1:Int).toNat ((wrap64 (aA.2.1+(wrap64 (aA.1)))):Int).toNat]:List ByteArray))).bind fun aE=> ((seal_eight.f aE).bind fun aG=> (if 0≤(wrap64 (aA.2.1+(wrap64 (aA.1))))then(if(wrap64 (aA.2.1+(wrap64 (aA.1))))≤(wrap64 ((wrap64 (aA.2.1+(wrap64 (aA.1))))+8))then(if(wrap64 ((wrap64 (aA.2.1+(wrap64 (aA.1))))+8))≤(a0.size:Int)then(if aG.toList=(a0.extract ((wrap64 (aA.2.1+(wrap64 (aA.1)))):Int).toNat ((wrap64 ((wrap64 (aA.2.1+(wrap64 (aA.1))))+8)):Int).toNat).toList then(if 0≤aA.2.1 then(if aA.2.1≤(wrap64 (aA.2.1+(wrap64 (aA.1))))then(some (a0.extract (aA.2.1:Int).toNat ((wrap64 (aA.2.1+(wrap64 (aA.1)))):Int).toNat,wrap64 ((wrap64 (aA.2.1+(wrap64 (aA.1))))+8),0))else(none))else(none))else(some ((⟨#[]⟩:ByteArray),0,22)))else(none))else(none))else(none))))else(none))else(none))))else(some ((⟨#[]⟩:ByteArray),0,aA.2.2))))else(some ((⟨#[]⟩:ByteArray),0,21)))else(none))else(none))=some (r1,r2,r3):=by(rw[hji15]at H;exact H)
         (try rw[hji15]at aR)
         (try rw[hji15]at aS)
         have hji15w:(IntKind.i64.wrap (a1+1))=ji15:=(i64_w _).trans hji15
         by_cases bS:0≤(ji15)
         ·rw[if_pos bS]at H
          have b9:=decide_eq_true bS
          clear bS
          by_cases bT:(ji15)< (a0.size:Int)
          ·rw[if_pos bT]at H
           have cA:=decide_eq_true bT
           clear bT
           by_cases aW:(wrap64 (bt a0 (ji15)))=a2
           ·rw[if_pos aW]at H
            have a7:=beq_iff_eq.mpr aW
            have a8:=bne_eq_false_iff_eq.mpr aW
            clear aW
            obtain⟨⟨aD,aB,aO⟩,a9,H⟩:=Option.bind_eq_some_iff.mp H
            try dsimp only at H
            have aZ:=am a9
            clear a9
            by_cases aX:aO=0
            ·rw[if_pos aX]at H
             have bA:=beq_iff_eq.mpr aX
             have bB:=bne_eq_false_iff_eq.mpr aX
             clear aX
             by_cases a3:aD> 30000
             ·rw[if_pos a3]at H
              have bC:decide (30000< aD)=true:=decide_eq_true a3
              clear a3
              simp only[Option.some.injEq,Prod.mk.injEq]at H
              obtain⟨rfl,rfl,rfl⟩:=H
              have aH:0≤(a1:Int):=of_decide_eq_true (by(with_reducible assumption))
              have aI:a1< (a0.size:Int):=of_decide_eq_true (by(with_reducible assumption))
              have aM:=bt_at a0 a1
              replace aH:=eq_true aH
              replace aI:=eq_true aI
              have aJ:0≤((ji15):Int):=of_decide_eq_true (by(with_reducible assumption))
              have aK:(ji15)< (a0.size:Int):=of_decide_eq_true (by(with_reducible assumption))
              have aP:=bt_at a0 (ji15)
              replace aJ:=eq_true aJ
              replace aK:=eq_true aK
              go_wp2_with (first|((with_reducible refine gate_callee (f:=51) rfl ?_);refine goesL_ (some 58) rfl rfl Tryz.func51 (by kernel_rfl) rfl #[.string a0,i6 (wrap64 (a1+2))] rfl (by(try simp only[l_m,l_c,l_n]);rfl) ?_;(with_reducible refine(pack_TakeNumber.calls aT a0 (wrap64 (a1+2)) aD aB aO _ aZ.out).mono ?_);rintro e w' ⟨rfl,⟨nd,rfl⟩⟩;refine⟨_,rfl,?_⟩))
              go_ret3
              exact⟨by first|rfl|(simp[errW_none,errW_some]<;> rfl)|(simp only[← hji15];first|rfl|(simp[errW_none,errW_some]<;> rfl))|(simp[*,errW_none,errW_some]<;> rfl),pw_below_drewN HB.out _⟩
             ·rw[if_neg a3]at H
              have bC:decide (30000< aD)=false:=decide_eq_false a3
              clear a3
              by_cases a4:(wrap64 ((wrap64 (aD))+8))> (wrap64 ((a0.size:Int) - aB))
              ·rw[if_pos a4]at H
               have bD:decide ((wrap64 ((a0.size:Int) - aB))< (wrap64 ((wrap64 (aD))+8)))=true:=decide_eq_true a4
               clear a4
               simp only[Option.some.injEq,Prod.mk.injEq]at H
               obtain⟨rfl,rfl,rfl⟩:=H
               have aH:0≤(a1:Int):=of_decide_eq_true (by(with_reducible assumption))
               have aI:a1< (a0.size:Int):=of_decide_eq_true (by(with_reducible assumption))
               have aM:=bt_at a0 a1
               replace aH:=eq_true aH
               replace aI:=eq_true aI
               have aJ:0≤((ji15):Int):=of_decide_eq_true (by(with_reducible assumption))
               have aK:(ji15)< (a0.size:Int):=of_decide_eq_true (by(with_reducible assumption))
               have aP:=bt_at a0 (ji15)
               replace aJ:=eq_true aJ
               replace aK:=eq_true aK
               go_wp2_with (first|((with_reducible refine gate_callee (f:=51) rfl ?_);refine goesL_ (some 58) rfl rfl Tryz.func51 (by kernel_rfl) rfl #[.string a0,i6 (wrap64 (a1+2))] rfl (by(try simp only[l_m,l_c,l_n]);rfl) ?_;(with_reducible refine(pack_TakeNumber.calls aT a0 (wrap64 (a1+2)) aD aB aO _ aZ.out).mono ?_);rintro e w' ⟨rfl,⟨nd,rfl⟩⟩;refine⟨_,rfl,?_⟩))
               go_ret3
               exact⟨by first|rfl|(simp[errW_none,errW_some]<;> rfl)|(simp only[← hji15];first|rfl|(simp[errW_none,errW_some]<;> rfl))|(simp[*,errW_none,errW_some]<;> rfl),pw_below_drewN HB.out _⟩
              ·rw[if_neg a4]at H
               have bD:decide ((wrap64 ((a0.size:Int) - aB))< (wrap64 ((wrap64 (aD))+8)))=false:=decide_eq_false a4
               clear a4
               have cB:=eq_true (of_decide_eq_true (by(with_reducible assumption)):0≤a1)
               by_cases bE:a1≤(wrap64 (aB+(wrap64 (aD))))
               ·rw[if_pos bE]at H
                have bF:=eq_true bE
                have bG:=decide_eq_true bE
                by_cases bH:(wrap64 (aB+(wrap64 (aD))))≤(a0.size:Int)
                ·rw[if_pos bH]at H
                 have bI:=eq_true bH
                 have bJ:=decide_eq_true bH
                 obtain⟨aQ,hy186⟩:∃ y_:List ByteArray,y_=(([a0.extract (a1:Int).toNat ((wrap64 (aB+(wrap64 (aD)))):Int).toNat]:List ByteArray)):=⟨_,rfl⟩
                 replace H:((seal_Sum.f aQ).bind fun aE=> ((seal_eight.f aE).bind fun aG=> (if 0≤(wrap64 (aB+(wrap64 (aD))))then(if(wrap64 (aB+(wrap64 (aD))))≤(wrap64 ((wrap64 (aB+(wrap64 (aD))))+8))then(if(wrap64 ((wrap64 (aB+(wrap64 (aD))))+8))≤(a0.size:Int)then(if aG.toList=(a0.extract ((wrap64 (aB+(wrap64 (aD)))):Int).toNat ((wrap64 ((wrap64 (aB+(wrap64 (aD))))+8)):Int).toNat).toList then(if 0≤aB then(if aB≤(wrap64 (aB+(wrap64 (aD))))then(some (a0.extract (aB:Int).toNat ((wrap64 (aB+(wrap64 (aD)))):Int).toNat,wrap64 ((wrap64 (aB+(wrap64 (aD))))+8),0))else(none))else(none))else(some ((⟨#[]⟩:ByteArray),0,22)))else(none))else(none))else(none))))=some (r1,r2,r3):=by(rw[hy186];with_reducible exact H)
                 have Ny186:=am hy186
                 clear hy186
                 obtain⟨aE,bK,H⟩:=Option.bind_eq_some_iff.mp H
                 try dsimp only at H
                 have b1:=am bK
                 clear bK
                 obtain⟨aG,bL,H⟩:=Option.bind_eq_some_iff.mp H
                 try dsimp only at H
                 have b2:=am bL
                 clear bL
                 obtain⟨ji29,hji29⟩:∃ j_:Int,(wrap64 (aB+(wrap64 (aD))))=j_:=⟨_,rfl⟩
                 replace H:(if 0≤(ji29)then(if(ji29)≤(wrap64 ((ji29)+8))then(if(wrap64 ((ji29)+8))≤(a0.size:Int)then(if aG.toList=(a0.extract ((ji29):Int).toNat ((wrap64 ((ji29)+8)):Int).toNat).toList then(if 0≤aB then(if aB≤(ji29)then(some (a0.extract (aB:Int).toNat ((ji29):Int).toNat,wrap64 ((ji29)+8),0))else(none))else(none))else(some ((⟨#[]⟩:ByteArray),0,22)))else(none))else(none))else(none))=some (r1,r2,r3):=by(rw[hji29]at H;exact H)
                 (try rw[hji29]at bF)
                 (try rw[hji29]at bG)
                 (try rw[hji29]at bE)
                 (try rw[hji29]at bI)
                 (try rw[hji29]at bJ)
                 (try rw[hji29]at bH)
                 (try rw[hji29]at aZ)
                 (try rw[hji29]at Ny186)
                 (try rw[hji29]at b1)
                 (try rw[hji29]at b2)
                 have hji29w:(IntKind.i64.wrap (aB+(wrap64 (aD))))=ji29:=(i64_w _).trans hji29
                 by_cases bM:0≤(ji29)
                 ·rw[if_pos bM]at H
                  have cC:=eq_true bM
                  have cD:=decide_eq_true bM
                  clear bM
                  by_cases bU:(ji29)≤(wrap64 ((ji29)+8))
                  ·rw[if_pos bU]at H
                   have cE:=eq_true bU
                   have cF:=decide_eq_true bU
                   by_cases bV:(wrap64 ((ji29)+8))≤(a0.size:Int)
                   ·rw[if_pos bV]at H
                    have cG:=eq_true bV
                    have cH:=decide_eq_true bV
                    by_cases aY:aG.toList=(a0.extract ((ji29):Int).toNat ((wrap64 ((ji29)+8)):Int).toNat).toList
                    ·rw[if_pos aY]at H
                     have bN:=beq_iff_eq.mpr aY
                     have bO:=bne_eq_false_iff_eq.mpr aY
                     clear aY
                     by_cases bP:0≤aB
                     ·rw[if_pos bP]at H
                      have cI:=eq_true bP
                      have cJ:=decide_eq_true bP
                      clear bP
                      by_cases bQ:aB≤(ji29)
                      ·rw[if_pos bQ]at H
                       have cK:=eq_true bQ
                       have cL:=decide_eq_true bQ
                       clear bQ
                       have cM:=eq_true (of_decide_eq_true (by(with_reducible assumption)):(ji29)≤(a0.size:Int))
                       simp only[Option.some.injEq,Prod.mk.injEq]at H
                       obtain⟨rfl,rfl,rfl⟩:=H
                       have aH:0≤(a1:Int):=of_decide_eq_true (by(with_reducible assumption))
                       have aI:a1< (a0.size:Int):=of_decide_eq_true (by(with_reducible assumption))
                       have aM:=bt_at a0 a1
                       replace aH:=eq_true aH
                       replace aI:=eq_true aI
                       have aJ:0≤((ji15):Int):=of_decide_eq_true (by(with_reducible assumption))
                       have aK:(ji15)< (a0.size:Int):=of_decide_eq_true (by(with_reducible assumption))
                       have aP:=bt_at a0 (ji15)
                       replace aJ:=eq_true aJ
                       replace aK:=eq_true aK
                       try go_wp2_with (first|((with_reducible refine gate_callee (f:=51) rfl ?_);refine goesL_ (some 58) rfl rfl Tryz.func51 (by kernel_rfl) rfl #[.string a0,i6 (wrap64 (a1+2))] rfl (by(try simp only[l_m,l_c,l_n]);rfl) ?_;(with_reducible refine(pack_TakeNumber.calls aT a0 (wrap64 (a1+2)) aD aB aO _ aZ.out).mono ?_);rintro e w' ⟨rfl,⟨nd,rfl⟩⟩;refine⟨_,rfl,?_⟩))
                       (try(rw[drewN_self wc];generalize hq_:World.drewN wc _=wc;have aF:Aside0 (Below w.heap.size w wc):=⟨by rw[← hq_];exact(pw_below_drewN HB.out _)⟩;clear HB hq_;have HB:=aF;clear aF))
                       have aF:=am (below_drew1 HB.out)
                       clear HB
                       have HB:=aF
                       clear aF
                       refine start_ (n:=13) (S:=fun w'=> True) (ds:=[]) (rl [0,13]) (by kernel_rfl) rfl rfl trivial (fun hHeld=> ?_);refine with_tabW seal_Open.tab19 seal_Open.bits19 (fun HT_ HW_=> ?_)
                       generalize wc.drew=cP at HB hHeld ⊢
                       refine pure_ (i:=0) (N:=some 82) (v:=?_) (a':=?_) (rl [1,12]) rfl rfl (any_of HT_.out (by kernel_rfl)) (fun _ _ _ h=> h) (Or.inl ⟨by rfl,?_⟩) ?_ ?_
                       rotate_left
                       ·intro w'
                        go_simp
                        with_reducible rfl
                       rotate_left
                       ·simp only[Act.put,l_a,l_z,l_s,i64_w,i32_w]
                        rfl
                       refine pure_ (i:=1) (N:=some 83) (v:=?_) (a':=?_) (rl [2,11]) rfl rfl (any_of HT_.out (by kernel_rfl)) (fun _ _ _ h=> h) (Or.inl ⟨by rfl,?_⟩) ?_ ?_
                       rotate_left
                       ·intro w'
                        go_simp
                        with_reducible rfl
                       rotate_left
                       ·simp only[Act.put,l_a,l_z,l_s,i64_w,i32_w]
                        rfl
                       refine pure_ (i:=2) (N:=some 84) (v:=?_) (a':=?_) (rl [3,10]) rfl rfl (any_of HT_.out (by kernel_rfl)) (fun _ _ _ h=> h) (Or.inl ⟨by rfl,?_⟩) ?_ ?_
                       rotate_left
                       ·intro w'
                        go_simp
                        with_reducible rfl
                       rotate_left
                       ·simp only[Act.put,l_a,l_z,l_s,i64_w,i32_w]
                        rfl
                       refine pure_ (i:=3) (N:=some 85) (v:=?_) (a':=?_) (rl [4,9]) rfl rfl (any_of HT_.out (by kernel_rfl)) (fun _ _ _ h=> h) (Or.inl ⟨by rfl,?_⟩) ?_ ?_
                       rotate_left
                       ·intro w'
                        go_simp
                        with_reducible rfl
                       rotate_left
                       ·simp only[Act.put,l_a,l_z,l_s,i64_w,i32_w]
                        rfl
                       refine pure_ (i:=7) (N:=some 89) (v:=?_) (a':=?_) (rl [4,3,1,5]) rfl rfl (any_of HT_.out (by kernel_rfl)) (fun _ _ _ h=> h) (Or.inl ⟨by rfl,?_⟩) ?_ ?_
                       rotate_left
                       ·intro w'
                        go_simp
                        with_reducible rfl
                       rotate_left
                       ·simp only[Act.put,l_a,l_z,l_s,i64_w,i32_w]
                        rfl
                       refine pure_ (i:=8) (N:=some 90) (v:=?_) (a':=?_) (rl [4,3,2,4]) rfl rfl (any_of HT_.out (by kernel_rfl)) (fun _ _ _ h=> h) (Or.inl ⟨by rfl,?_⟩) ?_ ?_
                       rotate_left
                       ·intro w'
                        go_simp
                        with_reducible rfl
                       rotate_left
                       ·simp only[Act.put,l_a,l_z,l_s,i64_w,i32_w]
                        rfl
                       refine pure_ (i:=9) (N:=some 91) (v:=?_) (a':=?_) (rl [4,3,3,3]) rfl rfl (any_of HT_.out (by kernel_rfl)) (fun _ _ _ h=> h) (Or.inl ⟨by rfl,?_⟩) ?_ ?_
                       rotate_left
                       ·intro w'
                        go_simp
                        with_reducible rfl
                       rotate_left
                       ·simp only[Act.put,l_a,l_z,l_s,i64_w,i32_w]
                        rfl
                       refine pure_ (i:=10) (N:=some 92) (v:=?_) (a':=?_) (rl [4,3,4,2]) rfl rfl (any_of HT_.out (by kernel_rfl)) (fun _ _ _ h=> h) (Or.inl ⟨by rfl,?_⟩) ?_ ?_
                       rotate_left
                       ·intro w'
                        go_simp
                        with_reducible rfl
                       rotate_left
                       ·simp only[Act.put,l_a,l_z,l_s,i64_w,i32_w]
                        rfl
                       refine pure_ (i:=11) (N:=some 93) (v:=?_) (a':=?_) (rl [4,3,5,1]) rfl rfl (any_of HT_.out (by kernel_rfl)) (fun _ _ _ h=> h) (Or.inl ⟨by rfl,?_⟩) ?_ ?_
                       rotate_left
                       ·intro w'
                        go_simp
                        with_reducible rfl
                       rotate_left
                       ·simp only[Act.put,l_a,l_z,l_s,i64_w,i32_w]
                        rfl
                       refine one_ (i:=4) (N:=some 86) (rl [5,2,5,1]) rfl rfl (one_of HT_.out (by kernel_rfl)) (by decide) (fun K hK=> ?_)
                       refine Kd.R_lit_step Kd.string _ 9 ?hg (N:=86) ?hd (xs:=([a0.extract (a1:Int).toNat ((ji29):Int).toNat]:List ByteArray)) (inner:=[.string (a0.extract (a1:Int).toNat ((ji29):Int).toNat)]) (ok:=fun _=> True) (okp:=fun _=> True) ?hr ?hp (fun _ hk=> hk) trivial (Below.refl _ _) (Nat.le_refl _) (by simp) ?_;(case hd=> rfl);(case hg=> rfl);(case hr=> (go_simp;done));(case hp=> exact(Reps.one (show Kd.M Kd.string _ _ _ (a0.extract (a1:Int).toNat ((ji29):Int).toNat) [.string (a0.extract (a1:Int).toNat ((ji29):Int).toNat)]from rfl) (Reps.none _ _)))
                       intro v187 cQ ho39 hb hg_ hnew_
                       clear hg_ hnew_
                       (rw[← Ny186.out]at ho39)
                       have aF:=am (Kd.R_lower ho39 (below_size (HB.out)))
                       have aL:=am (below_step (HB.out) hb)
                       clear HB
                       have aC:=aF
                       have HB:=aL
                       clear aF aL
                       clear hb ho39
                       obtain⟨b3,b4,eo40⟩:=Kd.R_slice aC.out
                       (subst eo40)
                       refine hK.out _ _ trivial (fun hHeld=> ?_)
                       clear hK K
                       refine norm_ (a':=?_) ?_ ?_
                       rotate_left
                       ·show Act.put _ (some 86) _=_
                        simp only[Act.put,l_a,l_z,l_s,i64_w,i32_w]
                        rfl
                       refine one_ (i:=5) (N:=some 87) (rl [6,1,5,1]) rfl rfl (one_of HT_.out (by kernel_rfl)) (by decide) (fun K hK=> ?_)
                       refine goes_ Tryz.func43 (by kernel_rfl) rfl #[.slice b3 aQ.length b4] (by rfl) rfl rfl (by(try simp only[l_m,l_c,l_n]);rfl) ?_
                       with_reducible refine(seal_Sum.calls _ _ aQ aE _ ?side1 ?side2 b1.out).mono ?_
                       (case side1=> exact(Kd.R_reads' aC.out).2.2)
                       (case side2=> exact(Kd.R_reads' aC.out).2.1)
                       rintro e cR ⟨rfl,hb⟩
                       refine⟨_,rfl,?_⟩
                       have aF:=am (Kd.R_below (by exact aC.out) hb)
                       have aL:=am (below_step (HB.out) hb)
                       clear aC HB
                       have aC:=aF
                       have HB:=aL
                       clear aF aL
                       clear hb
                       refine hK.out _ _ trivial (fun hHeld=> ?_)
                       clear hK K
                       refine norm_ (a':=?_) ?_ ?_
                       rotate_left
                       ·show Act.put _ (some 87) _=_
                        simp only[Act.put,l_a,l_z,l_s,i64_w,i32_w]
                        rfl
                       refine one_ (i:=6) (N:=some 88) (rl [12,1]) rfl rfl (one_of HT_.out (by kernel_rfl)) (by decide) (fun K hK=> ?_)
                       refine goes_ Tryz.func42 (by kernel_rfl) rfl #[.int .u64 aE] (by rfl) rfl rfl (by(try simp only[l_m,l_c,l_n]);rfl) ?_
                       with_reducible refine(seal_eight.calls aE aG _ b2.out).mono ?_
                       rintro e cS ⟨rfl,hb⟩
                       refine⟨_,rfl,?_⟩
                       have aF:=am (Kd.R_below (by exact aC.out) hb)
                       have aL:=am (below_step (HB.out) hb)
                       clear aC HB
                       have aC:=aF
                       have HB:=aL
                       clear aF aL
                       clear hb
                       refine hK.out _ _ trivial (fun hHeld=> ?_)
                       clear hK K
                       refine norm_ (a':=?_) ?_ ?_
                       rotate_left
                       ·show Act.put _ (some 88) _=_
                        simp only[Act.put,l_a,l_z,l_s,i64_w,i32_w]
                        rfl
                       refine pure_ (i:=12) (N:=some 94) (v:=?_) (a':=?_) (rl [13]) rfl rfl (any_of HT_.out (by kernel_rfl)) (fun _ _ _ h=> h) (Or.inl ⟨by rfl,?_⟩) ?_ ?_
                       rotate_left
                       ·intro w'
                        go_simp
                        with_reducible rfl
                       rotate_left
                       ·simp only[Act.put,l_a,l_z,l_s,i64_w,i32_w]
                        rfl
                       refine done_ (done_of HT_.out (by kernel_rfl)) ?_
                       try go_wp2
                       go_ret3
                       exact⟨by first|rfl|(simp[errW_none,errW_some]<;> rfl)|(simp only[← hji15,← hji29];first|rfl|(simp[errW_none,errW_some]<;> rfl))|(simp[*,errW_none,errW_some]<;> rfl),HB.out⟩
                      ·rw[if_neg bQ]at H
                       exact absurd H (by simp)
                     ·rw[if_neg bP]at H
                      exact absurd H (by simp)
                    ·rw[if_neg aY]at H
                     have bN:=beq_eq_false_iff_ne.mpr aY
                     have bO:=bne_iff_ne.mpr aY
                     simp only[Option.some.injEq,Prod.mk.injEq]at H
                     obtain⟨rfl,rfl,rfl⟩:=H
                     have aH:0≤(a1:Int):=of_decide_eq_true (by(with_reducible assumption))
                     have aI:a1< (a0.size:Int):=of_decide_eq_true (by(with_reducible assumption))
                     have aM:=bt_at a0 a1
                     replace aH:=eq_true aH
                     replace aI:=eq_true aI
                     have aJ:0≤((ji15):Int):=of_decide_eq_true (by(with_reducible assumption))
                     have aK:(ji15)< (a0.size:Int):=of_decide_eq_true (by(with_reducible assumption))
                     have aP:=bt_at a0 (ji15)
                     replace aJ:=eq_true aJ
                     replace aK:=eq_true aK
                     try go_wp2_with (first|((with_reducible refine gate_callee (f:=51) rfl ?_);refine goesL_ (some 58) rfl rfl Tryz.func51 (by kernel_rfl) rfl #[.string a0,i6 (wrap64 (a1+2))] rfl (by(try simp only[l_m,l_c,l_n]);rfl) ?_;(with_reducible refine(pack_TakeNumber.calls aT a0 (wrap64 (a1+2)) aD aB aO _ aZ.out).mono ?_);rintro e w' ⟨rfl,⟨nd,rfl⟩⟩;refine⟨_,rfl,?_⟩))
                     (try(rw[drewN_self wc];generalize hq_:World.drewN wc _=wc;have aF:Aside0 (Below w.heap.size w wc):=⟨by rw[← hq_];exact(pw_below_drewN HB.out _)⟩;clear HB hq_;have HB:=aF;clear aF))
                     have aF:=am (below_drew1 HB.out)
                     clear HB
                     have HB:=aF
                     clear aF
                     refine start_ (n:=13) (S:=fun w'=> True) (ds:=[]) (rl [0,13]) (by kernel_rfl) rfl rfl trivial (fun hHeld=> ?_);refine with_tabW seal_Open.tab19 seal_Open.bits19 (fun HT_ HW_=> ?_)
                     generalize wc.drew=cT at HB hHeld ⊢
                     refine pure_ (i:=0) (N:=some 82) (v:=?_) (a':=?_) (rl [1,12]) rfl rfl (any_of HT_.out (by kernel_rfl)) (fun _ _ _ h=> h) (Or.inl ⟨by rfl,?_⟩) ?_ ?_
                     rotate_left
                     ·intro w'
                      go_simp
                      with_reducible rfl
                     rotate_left
                     ·simp only[Act.put,l_a,l_z,l_s,i64_w,i32_w]
                      rfl
                     refine pure_ (i:=1) (N:=some 83) (v:=?_) (a':=?_) (rl [2,11]) rfl rfl (any_of HT_.out (by kernel_rfl)) (fun _ _ _ h=> h) (Or.inl ⟨by rfl,?_⟩) ?_ ?_
                     rotate_left
                     ·intro w'
                      go_simp
                      with_reducible rfl
                     rotate_left
                     ·simp only[Act.put,l_a,l_z,l_s,i64_w,i32_w]
                      rfl
                     refine pure_ (i:=2) (N:=some 84) (v:=?_) (a':=?_) (rl [3,10]) rfl rfl (any_of HT_.out (by kernel_rfl)) (fun _ _ _ h=> h) (Or.inl ⟨by rfl,?_⟩) ?_ ?_
                     rotate_left
                     ·intro w'
                      go_simp
                      with_reducible rfl
                     rotate_left
                     ·simp only[Act.put,l_a,l_z,l_s,i64_w,i32_w]
                      rfl
                     refine pure_ (i:=3) (N:=some 85) (v:=?_) (a':=?_) (rl [4,9]) rfl rfl (any_of HT_.out (by kernel_rfl)) (fun _ _ _ h=> h) (Or.inl ⟨by rfl,?_⟩) ?_ ?_
                     rotate_left
                     ·intro w'
                      go_simp
                      with_reducible rfl
                     rotate_left
                     ·simp only[Act.put,l_a,l_z,l_s,i64_w,i32_w]
                      rfl
                     refine pure_ (i:=7) (N:=some 89) (v:=?_) (a':=?_) (rl [4,3,1,5]) rfl rfl (any_of HT_.out (by kernel_rfl)) (fun _ _ _ h=> h) (Or.inl ⟨by rfl,?_⟩) ?_ ?_
                     rotate_left
                     ·intro w'
                      go_simp
                      with_reducible rfl
                     rotate_left
                     ·simp only[Act.put,l_a,l_z,l_s,i64_w,i32_w]
                      rfl
                     refine pure_ (i:=8) (N:=some 90) (v:=?_) (a':=?_) (rl [4,3,2,4]) rfl rfl (any_of HT_.out (by kernel_rfl)) (fun _ _ _ h=> h) (Or.inl ⟨by rfl,?_⟩) ?_ ?_
                     rotate_left
                     ·intro w'
                      go_simp
                      with_reducible rfl
                     rotate_left
                     ·simp only[Act.put,l_a,l_z,l_s,i64_w,i32_w]
                      rfl
                     refine pure_ (i:=9) (N:=some 91) (v:=?_) (a':=?_) (rl [4,3,3,3]) rfl rfl (any_of HT_.out (by kernel_rfl)) (fun _ _ _ h=> h) (Or.inl ⟨by rfl,?_⟩) ?_ ?_
                     rotate_left
                     ·intro w'
                      go_simp
                      with_reducible rfl
                     rotate_left
                     ·simp only[Act.put,l_a,l_z,l_s,i64_w,i32_w]
                      rfl
                     refine pure_ (i:=10) (N:=some 92) (v:=?_) (a':=?_) (rl [4,3,4,2]) rfl rfl (any_of HT_.out (by kernel_rfl)) (fun _ _ _ h=> h) (Or.inl ⟨by rfl,?_⟩) ?_ ?_
                     rotate_left
                     ·intro w'
                      go_simp
                      with_reducible rfl
                     rotate_left
                     ·simp only[Act.put,l_a,l_z,l_s,i64_w,i32_w]
                      rfl
                     refine pure_ (i:=11) (N:=some 93) (v:=?_) (a':=?_) (rl [4,3,5,1]) rfl rfl (any_of HT_.out (by kernel_rfl)) (fun _ _ _ h=> h) (Or.inl ⟨by rfl,?_⟩) ?_ ?_
                     rotate_left
                     ·intro w'
                      go_simp
                      with_reducible rfl
                     rotate_left
                     ·simp only[Act.put,l_a,l_z,l_s,i64_w,i32_w]
                      rfl
                     refine one_ (i:=4) (N:=some 86) (rl [5,2,5,1]) rfl rfl (one_of HT_.out (by kernel_rfl)) (by decide) (fun K hK=> ?_)
                     refine Kd.R_lit_step Kd.string _ 9 ?hg (N:=86) ?hd (xs:=([a0.extract (a1:Int).toNat ((ji29):Int).toNat]:List ByteArray)) (inner:=[.string (a0.extract (a1:Int).toNat ((ji29):Int).toNat)]) (ok:=fun _=> True) (okp:=fun _=> True) ?hr ?hp (fun _ hk=> hk) trivial (Below.refl _ _) (Nat.le_refl _) (by simp) ?_;(case hd=> rfl);(case hg=> rfl);(case hr=> (go_simp;done));(case hp=> exact(Reps.one (show Kd.M Kd.string _ _ _ (a0.extract (a1:Int).toNat ((ji29):Int).toNat) [.string (a0.extract (a1:Int).toNat ((ji29):Int).toNat)]from rfl) (Reps.none _ _)))
                     intro v187 cU ho45 hb hg_ hnew_
                     clear hg_ hnew_
                     (rw[← Ny186.out]at ho45)
                     have aF:=am (Kd.R_lower ho45 (below_size (HB.out)))
                     have aL:=am (below_step (HB.out) hb)
                     clear HB
                     have aC:=aF
                     have HB:=aL
                     clear aF aL
                     clear hb ho45
                     obtain⟨b5,b6,eo46⟩:=Kd.R_slice aC.out
                     (subst eo46)
                     refine hK.out _ _ trivial (fun hHeld=> ?_)
                     clear hK K
                     refine norm_ (a':=?_) ?_ ?_
                     rotate_left
                     ·show Act.put _ (some 86) _=_
                      simp only[Act.put,l_a,l_z,l_s,i64_w,i32_w]
                      rfl
                     refine one_ (i:=5) (N:=some 87) (rl [6,1,5,1]) rfl rfl (one_of HT_.out (by kernel_rfl)) (by decide) (fun K hK=> ?_)
                     refine goes_ Tryz.func43 (by kernel_rfl) rfl #[.slice b5 aQ.length b6] (by rfl) rfl rfl (by(try simp only[l_m,l_c,l_n]);rfl) ?_
                     with_reducible refine(seal_Sum.calls _ _ aQ aE _ ?side1 ?side2 b1.out).mono ?_
                     (case side1=> exact(Kd.R_reads' aC.out).2.2)
                     (case side2=> exact(Kd.R_reads' aC.out).2.1)
                     rintro e cV ⟨rfl,hb⟩
                     refine⟨_,rfl,?_⟩
                     have aF:=am (Kd.R_below (by exact aC.out) hb)
                     have aL:=am (below_step (HB.out) hb)
                     clear aC HB
                     have aC:=aF
                     have HB:=aL
                     clear aF aL
                     clear hb
                     refine hK.out _ _ trivial (fun hHeld=> ?_)
                     clear hK K
                     refine norm_ (a':=?_) ?_ ?_
                     rotate_left
                     ·show Act.put _ (some 87) _=_
                      simp only[Act.put,l_a,l_z,l_s,i64_w,i32_w]
                      rfl
                     refine one_ (i:=6) (N:=some 88) (rl [12,1]) rfl rfl (one_of HT_.out (by kernel_rfl)) (by decide) (fun K hK=> ?_)
                     refine goes_ Tryz.func42 (by kernel_rfl) rfl #[.int .u64 aE] (by rfl) rfl rfl (by(try simp only[l_m,l_c,l_n]);rfl) ?_
                     with_reducible refine(seal_eight.calls aE aG _ b2.out).mono ?_
                     rintro e cW ⟨rfl,hb⟩
                     refine⟨_,rfl,?_⟩
                     have aF:=am (Kd.R_below (by exact aC.out) hb)
                     have aL:=am (below_step (HB.out) hb)
                     clear aC HB
                     have aC:=aF
                     have HB:=aL
                     clear aF aL
                     clear hb
                     refine hK.out _ _ trivial (fun hHeld=> ?_)
                     clear hK K
                     refine norm_ (a':=?_) ?_ ?_
                     rotate_left
                     ·show Act.put _ (some 88) _=_
                      simp only[Act.put,l_a,l_z,l_s,i64_w,i32_w]
                      rfl
                     refine pure_ (i:=12) (N:=some 94) (v:=?_) (a':=?_) (rl [13]) rfl rfl (any_of HT_.out (by kernel_rfl)) (fun _ _ _ h=> h) (Or.inl ⟨by rfl,?_⟩) ?_ ?_
                     rotate_left
                     ·intro w'
                      go_simp
                      with_reducible rfl
                     rotate_left
                     ·simp only[Act.put,l_a,l_z,l_s,i64_w,i32_w]
                      rfl
                     refine done_ (done_of HT_.out (by kernel_rfl)) ?_
                     try go_wp2
                     go_ret3
                     exact⟨by first|rfl|(simp[errW_none,errW_some]<;> rfl)|(simp only[← hji15,← hji29];first|rfl|(simp[errW_none,errW_some]<;> rfl))|(simp[*,errW_none,errW_some]<;> rfl),HB.out⟩
                   ·rw[if_neg bV]at H
                    exact absurd H (by simp)
                  ·rw[if_neg bU]at H
                   exact absurd H (by simp)
                 ·rw[if_neg bM]at H
                  exact absurd H (by simp)
                ·rw[if_neg bH]at H
                 exact absurd H (by simp)
               ·rw[if_neg bE]at H
                exact absurd H (by simp)
            ·rw[if_neg aX]at H
             have bA:=beq_eq_false_iff_ne.mpr aX
             have bB:=bne_iff_ne.mpr aX
             simp only[Option.some.injEq,Prod.mk.injEq]at H
             obtain⟨rfl,rfl,rfl⟩:=H
             have aH:0≤(a1:Int):=of_decide_eq_true (by(with_reducible assumption))
             have aI:a1< (a0.size:Int):=of_decide_eq_true (by(with_reducible assumption))
             have aM:=bt_at a0 a1
             replace aH:=eq_true aH
             replace aI:=eq_true aI
             have aJ:0≤((ji15):Int):=of_decide_eq_true (by(with_reducible assumption))
             have aK:(ji15)< (a0.size:Int):=of_decide_eq_true (by(with_reducible assumption))
             have aP:=bt_at a0 (ji15)
             replace aJ:=eq_true aJ
             replace aK:=eq_true aK
             go_wp2_with (first|((with_reducible refine gate_callee (f:=51) rfl ?_);refine goesL_ (some 58) rfl rfl Tryz.func51 (by kernel_rfl) rfl #[.string a0,i6 (wrap64 (a1+2))] rfl (by(try simp only[l_m,l_c,l_n]);rfl) ?_;(with_reducible refine(pack_TakeNumber.calls aT a0 (wrap64 (a1+2)) aD aB aO _ aZ.out).mono ?_);rintro e w' ⟨rfl,⟨nd,rfl⟩⟩;refine⟨_,rfl,?_⟩))
             go_ret3
             exact⟨by first|rfl|(simp[errW_none,errW_some]<;> rfl)|(simp only[← hji15];first|rfl|(simp[errW_none,errW_some]<;> rfl))|(simp[*,errW_none,errW_some]<;> rfl),pw_below_drewN HB.out _⟩
           ·rw[if_neg aW]at H
            have a7:=beq_eq_false_iff_ne.mpr aW
            have a8:=bne_iff_ne.mpr aW
            simp only[Option.some.injEq,Prod.mk.injEq]at H
            obtain⟨rfl,rfl,rfl⟩:=H
            have aH:0≤(a1:Int):=of_decide_eq_true (by(with_reducible assumption))
            have aI:a1< (a0.size:Int):=of_decide_eq_true (by(with_reducible assumption))
            have aM:=bt_at a0 a1
            replace aH:=eq_true aH
            replace aI:=eq_true aI
            have aJ:0≤((ji15):Int):=of_decide_eq_true (by(with_reducible assumption))
            have aK:(ji15)< (a0.size:Int):=of_decide_eq_true (by(with_reducible assumption))
            have aP:=bt_at a0 (ji15)
            replace aJ:=eq_true aJ
            replace aK:=eq_true aK
            go_wp2
            go_ret3
            exact⟨by first|rfl|(simp[errW_none,errW_some]<;> rfl)|(simp only[← hji15];first|rfl|(simp[errW_none,errW_some]<;> rfl))|(simp[*,errW_none,errW_some]<;> rfl),HB.out⟩
          ·rw[if_neg bT]at H
           exact absurd H (by simp)
         ·rw[if_neg bS]at H
          exact absurd H (by simp)
       ·rw[if_neg aU]at H
        have a5:=beq_eq_false_iff_ne.mpr aU
        have a6:=bne_iff_ne.mpr aU
        simp only[Option.some.injEq,Prod.mk.injEq]at H
        obtain⟨rfl,rfl,rfl⟩:=H
        have aH:0≤(a1:Int):=of_decide_eq_true (by(with_reducible assumption))
        have aI:a1< (a0.size:Int):=of_decide_eq_true (by(with_reducible assumption))
        have aM:=bt_at a0 a1
        replace aH:=eq_true aH
        replace aI:=eq_true aI
        go_wp2
        go_ret3
        exact⟨by rfl,HB.out⟩
      ·rw[if_neg bR]at H
       exact absurd H (by simp)
     ·rw[if_neg c10]at H
      exact absurd H (by simp)

/-! ### note_place_number: function 52 -/
/-- A state of type 68 at block g of W; what its slices lead to came in by w0. -/
def IsS68 (w0 W:World) (g:Nat) (f0:ByteArray) (f1:Int) (f2:Bool):Prop:=W.heap[g]?=some (.cells #[.string f0,i6 f1,.bool f2] 68 (0,0))∧w0.heap.size≤g
theorem IsS68.grown {w0 W:World} {g:Nat} {f0:ByteArray} {f1:Int} {f2:Bool} {W1:World} {row:Option Nat} (h:IsS68 w0 W g f0 f1 f2) (hw:W.grownBy W1 row) (hne:some g≠row):IsS68 w0 W1 g f0 f1 f2:=by
 obtain⟨hb,hg⟩:=h
 exact⟨blk_grown hb hw hne,hg⟩
theorem IsS68.own_neN {w0 W:World} {g:Nat} {f0:ByteArray} {f1:Int} {f2:Bool} {α:Type} {d:Kd α} {e:Nat} {base:Nat} {ok:Nat→Prop} {v:Value} {xs:List α} (h:IsS68 w0 W g f0 f1 f2) (ho:Kd.N d e W base ok v xs) (ht:e≠68):some g≠v.ownBlock:=by
 obtain⟨hb,hg⟩:=h
 exact Kd.N_ne ho hb ht
theorem IsS68.fresh {w0 W:World} {g:Nat} {f0:ByteArray} {f1:Int} {f2:Bool} (h:IsS68 w0 W g f0 f1 f2):∀ k,W.heap.size≤k→k≠g:=by
 obtain⟨hb,hg⟩:=h
 exact Kd.freshB hb
theorem IsS68.kept {w0 W:World} {g:Nat} {f0:ByteArray} {f1:Int} {f2:Bool} {W1:World} {S:Nat→Prop} (h:IsS68 w0 W g f0 f1 f2) (hk:Kept W W1 S) (hne:¬ S g):IsS68 w0 W1 g f0 f1 f2:=by
 obtain⟨hb,hg⟩:=h
 exact⟨blk_kept hb hk hne,hg⟩
theorem IsS68.below {w0 W:World} {g:Nat} {f0:ByteArray} {f1:Int} {f2:Bool} {W1:World} (h:IsS68 w0 W g f0 f1 f2) (hw:Below W.heap.size W W1):IsS68 w0 W1 g f0 f1 f2:=h.grown (grown_of_below hw none) (by simp)
theorem IsS68.alloc {w0 W:World} {g:Nat} {f0:ByteArray} {f1:Int} {f2:Bool} (h:IsS68 w0 W g f0 f1 f2) (o:Obj):IsS68 w0 (W.alloc o) g f0 f1 f2:=h.below (below_alloc (Below.refl _ _) o)
theorem IsS68.drewN {w0 W:World} {g:Nat} {f0:ByteArray} {f1:Int} {f2:Bool} (h:IsS68 w0 W g f0 f1 f2) (m:Nat):IsS68 w0 (W.drewN m) g f0 f1 f2:=h
theorem IsS68.drew {w0 W:World} {g:Nat} {f0:ByteArray} {f1:Int} {f2:Bool} (h:IsS68 w0 W g f0 f1 f2):IsS68 w0 W.drew g f0 f1 f2:=h
theorem IsS68.at_ {w0 W:World} {g:Nat} {f0:ByteArray} {f1:Int} {f2:Bool} {w':World} {m:Nat} (hq:W.drewN m=w') (h:IsS68 w0 W g f0 f1 f2):IsS68 w0 w' g f0 f1 f2:=by subst hq;exact IsS68.drewN h m
theorem IsS68.apart {w0 W:World} {g:Nat} {f0:ByteArray} {f1:Int} {f2:Bool} {α:Type} {d:Kd α} {e:Nat} {base:Nat} {ok:Nat→Prop} {v:Value} {xs:List α} (h:IsS68 w0 W g f0 f1 f2) (ho:d.R e W base ok v xs) (ht:∀ q,q ∈ e :: d.E→q≠68):d.R e W base (fun k=> ok k∧k≠g) v xs:=by
 obtain⟨hb,hg⟩:=h
 exact Kd.R_types ho hb ht
theorem IsS68.own_ne {w0 W:World} {g:Nat} {f0:ByteArray} {f1:Int} {f2:Bool} {α:Type} {d:Kd α} {e:Nat} {base:Nat} {ok:Nat→Prop} {v:Value} {xs:List α} (h:IsS68 w0 W g f0 f1 f2) (ho:d.R e W base ok v xs) (ht:e≠68):some g≠v.ownBlock:=by
 obtain⟨hb,hg⟩:=h
 exact Kd.R_ne ho hb ht
theorem IsS68.apartQ {w0 W:World} {g:Nat} {f0:ByteArray} {f1:Int} {f2:Bool} {α:Type} {d:Kd α} {e:Nat} {base:Nat} {ok:Nat→Prop} {v:Value} {xs:List α} (h:IsS68 w0 W g f0 f1 f2) (ho:d.Q e W base ok v xs) (ht:∀ q,q ∈ e :: d.E→q≠68):d.Q e W base (fun k=> ok k∧k≠g) v xs:=by
 obtain⟨hb,hg⟩:=h
 exact Kd.Q_types ho hb ht
theorem IsS68.own_neQ {w0 W:World} {g:Nat} {f0:ByteArray} {f1:Int} {f2:Bool} {α:Type} {d:Kd α} {e:Nat} {base:Nat} {ok:Nat→Prop} {v:Value} {xs:List α} (h:IsS68 w0 W g f0 f1 f2) (ho:d.Q e W base ok v xs) (ht:e≠68):some g≠v.ownBlock:=by
 obtain⟨hb,hg⟩:=h
 exact Kd.Q_ne ho hb ht
theorem IsS68.apartS {w0 W:World} {g:Nat} {f0:ByteArray} {f1:Int} {f2:Bool} {α:Type} {d:Kd α} {e:Nat} {base:Nat} {ok:Nat→Prop} {v:Value} {xs:List α} (h:IsS68 w0 W g f0 f1 f2) (ho:d.S e W base ok v xs) (ht:∀ q,q ∈ e :: d.E→q≠68):d.S e W base (fun k=> ok k∧k≠g) v xs:=by
 obtain⟨hb,hg⟩:=h
 exact Kd.S_types ho hb ht
theorem IsS68.own_neS {w0 W:World} {g:Nat} {f0:ByteArray} {f1:Int} {f2:Bool} {α:Type} {d:Kd α} {e:Nat} {base:Nat} {ok:Nat→Prop} {v:Value} {xs:List α} (h:IsS68 w0 W g f0 f1 f2) (ho:d.S e W base ok v xs) (ht:e≠68):some g≠v.ownBlock:=by
 obtain⟨hb,hg⟩:=h
 exact Kd.S_ne ho hb ht
theorem IsS68.lt {w0 W:World} {g:Nat} {f0:ByteArray} {f1:Int} {f2:Bool} (h:IsS68 w0 W g f0 f1 f2):g< W.heap.size:=by
 obtain⟨hb,hg⟩:=h
 exact blk_lt hb
theorem IsS68.ge {w0 W:World} {g:Nat} {f0:ByteArray} {f1:Int} {f2:Bool} (h:IsS68 w0 W g f0 f1 f2):w0.heap.size≤g:=by
 obtain⟨hb,hg⟩:=h
 exact hg
theorem IsS68.ne_blk {w0 W:World} {g:Nat} {f0:ByteArray} {f1:Int} {f2:Bool} {a:Nat} {cs:Array Value} {t:TypeId} {fr:Nat×Nat} (h:IsS68 w0 W g f0 f1 f2) (hb2:W.heap[a]?=some (.cells cs t fr)) (ht:t≠68):g≠a:=by
 obtain⟨hb,hg⟩:=h
 rintro rfl
 rw[hb]at hb2
 injection hb2 with hb2
 injection hb2 with _ ht2
 exact ht ht2.symm
theorem IsS68.far {w0 W:World} {g:Nat} {f0:ByteArray} {f1:Int} {f2:Bool} {p:Addr} (h:IsS68 w0 W g f0 f1 f2) (hne:g≠p.block) (u:Value):IsS68 w0 (W.setCell p u) g f0 f1 f2:=by
 obtain⟨hb,hg⟩:=h
 exact⟨blk_far hb hne u,hg⟩
theorem cellS68_0 {W:World} {g:Nat} {f0:ByteArray} {f1:Int} {f2:Bool} (h:W.heap[g]?=some (.cells #[.string f0,i6 f1,.bool f2] 68 (0,0))):W.cell? ⟨g,0,none⟩=some (.string f0):=(blk_cell h 0).trans rfl
theorem IsS68.set_0 {w0 W:World} {g:Nat} {f0:ByteArray} {f1:Int} {f2:Bool} (h:IsS68 w0 W g f0 f1 f2) (x:ByteArray):IsS68 w0 (W.setCell ⟨g,0,none⟩ (.string x)) g x f1 f2:=by
 obtain⟨hb,hg⟩:=h
 exact⟨by simpa using blk_set hb 0 (.string x),hg⟩
theorem cellS68_1 {W:World} {g:Nat} {f0:ByteArray} {f1:Int} {f2:Bool} (h:W.heap[g]?=some (.cells #[.string f0,i6 f1,.bool f2] 68 (0,0))):W.cell? ⟨g,1,none⟩=some (i6 f1):=(blk_cell h 1).trans rfl
theorem IsS68.set_1 {w0 W:World} {g:Nat} {f0:ByteArray} {f1:Int} {f2:Bool} (h:IsS68 w0 W g f0 f1 f2) (x:Int):IsS68 w0 (W.setCell ⟨g,1,none⟩ (i6 x)) g f0 x f2:=by
 obtain⟨hb,hg⟩:=h
 exact⟨by simpa using blk_set hb 1 (i6 x),hg⟩
theorem cellS68_2 {W:World} {g:Nat} {f0:ByteArray} {f1:Int} {f2:Bool} (h:W.heap[g]?=some (.cells #[.string f0,i6 f1,.bool f2] 68 (0,0))):W.cell? ⟨g,2,none⟩=some (.bool f2):=(blk_cell h 2).trans rfl
theorem IsS68.set_2 {w0 W:World} {g:Nat} {f0:ByteArray} {f1:Int} {f2:Bool} (h:IsS68 w0 W g f0 f1 f2) (x:Bool):IsS68 w0 (W.setCell ⟨g,2,none⟩ (.bool x)) g f0 f1 x:=by
 obtain⟨hb,hg⟩:=h
 exact⟨by simpa using blk_set hb 2 (.bool x),hg⟩
theorem IsS68.new (w0 W:World) (f0:ByteArray) (f1:Int) (f2:Bool) (hB:Below w0.heap.size w0 W):IsS68 w0 (W.alloc (.cells #[.string f0,i6 f1,.bool f2] 68)) W.heap.size f0 f1 f2:=⟨by simpa using heap_alloc_new W _,hB.size⟩
def note_place_number.f (k:Nat) (aA:ByteArray) (aB:Int) (aE:Bool):Option (Int×ByteArray×Int×Bool):=(pack_TakeNumber.f k aA aB).bind fun aD=> (if aE=true then(some (0,aA,aB,true))else(if aD.2.2=0 then(if aD.1> 1000000000 then(some (0,aA,aB,true))else(some (wrap64 (aD.1),aA,aD.2.1,aE)))else(some (0,aA,aB,true))))
theorem note_place_number.mono:∀ a0 a1 a2 k,LeO (note_place_number.f k a0 a1 a2) (note_place_number.f (k+1) a0 a1 a2):=by
 intro a0 a1 a2 k
 unfold note_place_number.f
 repeat' with_reducible first|apply pack_TakeNumber.mono|apply LeO.refl|apply LeO.none|refine LeO.ite ?_ ?_|refine LeO.bind ?_ (fun _=> ?_)
set_option maxHeartbeats 8000000 in
set_option maxRecDepth 100000 in
theorem note_place_number.calls (k:Nat) (g:Nat) (aA:ByteArray) (aB:Int) (aE:Bool) (r1:Int) (r2:ByteArray) (r3:Int) (r4:Bool) (w0 w:World) (hI:IsS68 w0 w g aA aB aE) (hB:Below w0.heap.size w0 w) (h:note_place_number.f k aA aB aE=some (r1,r2,r3,r4)) :
  Calls Tryz.prog 52 #[.pointer (some ⟨g,0,none⟩)] w fun e w'=> e=.returned (i6 r1)∧IsS68 w0 w' g r2 r3 r4∧Below w0.heap.size w0 w'∧KeepBut w w' g none:=by
 have HI0:=am hI
 have HK:=am (KeepBut.refl w g none)
 have HL:=am hB.size
 clear hI
 have HW0:=am hB.size
 have HB:=am hB
 clear hB
 unfold note_place_number.f at h
 have H:=h
 clear h
 obtain⟨⟨aC,aG,aF⟩,bB,H⟩:=Option.bind_eq_some_iff.mp H
 try dsimp only at H
 have A2:=am bB
 clear bB
 by_cases c3:aE=true
 ·subst c3
  have H1:(some (0,aA,aB,true))=some (r1,r2,r3,r4):=by rw[if_pos rfl]at H;exact H
  clear H
  have H:=H1
  clear H1
  simp only[Option.some.injEq,Prod.mk.injEq]at H
  obtain⟨rfl,rfl,rfl,rfl⟩:=H
  obtain⟨HGz4,hgz4⟩:=HI0.out
  have aH:=cellS68_0 HGz4
  have aI:=cellS68_1 HGz4
  have aJ:=cellS68_2 HGz4
  have aK:=blk_frozen HGz4 0
  have aL:=blk_frozen HGz4 1
  have aM:=blk_frozen HGz4 2
  clear HGz4 hgz4
  go_enter Tryz.func52,Tryz.ntmps52
  go_wp2_with (fail)
  repeat(go_quiet (first|(go_at_call 51;(with_reducible refine(pack_TakeNumber.calls k aA aB aC aG aF _ A2.out).mono ?_);rintro e w' ⟨rfl,⟨nd,rfl⟩⟩;(try exact⟨rfl,_,World.drewN_drewN _ _ _⟩)));try go_wp2_with (fail))
  go_ret
  exact⟨by rfl,by repeat(with_reducible first|exact HI0.out|apply IsS68.drewN|apply IsS68.set_2),by repeat(with_reducible first|exact HB.out|apply pw_below_drewN|refine below_set ?_ (IsS68.ge HI0.out)),by repeat(with_reducible first|exact HK.out|apply KeepBut.set_|apply keep_drewN)⟩
 ·replace c3:=Bool.eq_false_iff.mpr c3
  subst c3
  have H1:(if aF=0 then(if aC> 1000000000 then(some (0,aA,aB,true))else(some (wrap64 (aC),aA,aG,false)))else(some (0,aA,aB,true)))=some (r1,r2,r3,r4):=by rw[if_neg (show ¬ (false=true)by decide)]at H;exact H
  clear H
  have H:=H1
  clear H1
  by_cases c5:aF=0
  ·rw[if_pos c5]at H
   have aN:=beq_iff_eq.mpr c5
   have aO:=bne_eq_false_iff_eq.mpr c5
   clear c5
   by_cases c6:aC> 1000000000
   ·rw[if_pos c6]at H
    have aP:decide (1000000000< aC)=true:=decide_eq_true c6
    clear c6
    simp only[Option.some.injEq,Prod.mk.injEq]at H
    obtain⟨rfl,rfl,rfl,rfl⟩:=H
    obtain⟨HGz7,hgz7⟩:=HI0.out
    have aQ:=cellS68_0 HGz7
    have aR:=cellS68_1 HGz7
    have aS:=cellS68_2 HGz7
    have aT:=blk_frozen HGz7 0
    have aU:=blk_frozen HGz7 1
    have aV:=blk_frozen HGz7 2
    clear HGz7 hgz7
    go_enter Tryz.func52,Tryz.ntmps52
    go_wp2_with (fail)
    repeat(go_quiet (first|(go_at_call 51;(with_reducible refine(pack_TakeNumber.calls k aA aB aC aG aF _ A2.out).mono ?_);rintro e w' ⟨rfl,⟨nd,rfl⟩⟩;(try exact⟨rfl,_,World.drewN_drewN _ _ _⟩)));try go_wp2_with (fail))
    go_ret
    exact⟨by rfl,by repeat(with_reducible first|exact HI0.out|apply IsS68.drewN|apply IsS68.set_2),by repeat(with_reducible first|exact HB.out|apply pw_below_drewN|refine below_set ?_ (IsS68.ge HI0.out)),by repeat(with_reducible first|exact HK.out|apply KeepBut.set_|apply keep_drewN)⟩
   ·rw[if_neg c6]at H
    have aP:decide (1000000000< aC)=false:=decide_eq_false c6
    clear c6
    simp only[Option.some.injEq,Prod.mk.injEq]at H
    obtain⟨rfl,rfl,rfl,rfl⟩:=H
    obtain⟨HGz8,hgz8⟩:=HI0.out
    have aW:=cellS68_0 HGz8
    have aX:=cellS68_1 HGz8
    have aY:=cellS68_2 HGz8
    have aZ:=blk_frozen HGz8 0
    have a3:=blk_frozen HGz8 1
    have a4:=blk_frozen HGz8 2
    clear HGz8 hgz8
    go_enter Tryz.func52,Tryz.ntmps52
    go_wp2_with (fail)
    repeat(go_quiet (first|(go_at_call 51;(with_reducible refine(pack_TakeNumber.calls k aA aB aC aG aF _ A2.out).mono ?_);rintro e w' ⟨rfl,⟨nd,rfl⟩⟩;(try exact⟨rfl,_,World.drewN_drewN _ _ _⟩)));try go_wp2_with (fail))
    go_ret
    exact⟨by rfl,by repeat(with_reducible first|exact HI0.out|apply IsS68.drewN|apply IsS68.set_1),by repeat(with_reducible first|exact HB.out|apply pw_below_drewN|refine below_set ?_ (IsS68.ge HI0.out)),by repeat(with_reducible first|exact HK.out|apply KeepBut.set_|apply keep_drewN)⟩
  ·rw[if_neg c5]at H
   have aN:=beq_eq_false_iff_ne.mpr c5
   have aO:=bne_iff_ne.mpr c5
   simp only[Option.some.injEq,Prod.mk.injEq]at H
   obtain⟨rfl,rfl,rfl,rfl⟩:=H
   obtain⟨HGz9,hgz9⟩:=HI0.out
   have a5:=cellS68_0 HGz9
   have a6:=cellS68_1 HGz9
   have a7:=cellS68_2 HGz9
   have a8:=blk_frozen HGz9 0
   have a9:=blk_frozen HGz9 1
   have bA:=blk_frozen HGz9 2
   clear HGz9 hgz9
   go_enter Tryz.func52,Tryz.ntmps52
   go_wp2_with (fail)
   repeat(go_quiet (first|(go_at_call 51;(with_reducible refine(pack_TakeNumber.calls k aA aB aC aG aF _ A2.out).mono ?_);rintro e w' ⟨rfl,⟨nd,rfl⟩⟩;(try exact⟨rfl,_,World.drewN_drewN _ _ _⟩)));try go_wp2_with (fail))
   go_ret
   exact⟨by rfl,by repeat(with_reducible first|exact HI0.out|apply IsS68.drewN|apply IsS68.set_2),by repeat(with_reducible first|exact HB.out|apply pw_below_drewN|refine below_set ?_ (IsS68.ge HI0.out)),by repeat(with_reducible first|exact HK.out|apply KeepBut.set_|apply keep_drewN)⟩

/-! ### strings_Split: function 65 -/
def strings_Split.f (s sep:ByteArray):Option (List ByteArray):=if s.size< 4294967281∧1≤sep.size then some (Lib.splitB sep 0 (Lib.countB s sep) s)else none
theorem strings_Split.calls (a0 a1:ByteArray) (r:List ByteArray) (w:World) (hw_:WH w) (h:strings_Split.f a0 a1=some r):Calls Tryz.prog 65 #[.string a0,.string a1] w fun e w'=> ∃ v0_:Value,e=.returned (v0_)∧Kd.R Kd.string 9 w' w.heap.size (fun _=> True) v0_ r∧Below w.heap.size w w':=by
 unfold strings_Split.f at h
 by_cases hb:a0.size< 4294967281∧1≤a1.size
 ·rw[if_pos hb]at h
  obtain rfl:=Option.some.inj h
  obtain⟨m,hm⟩:=hw_.max
  have hlen:=Lib.splitB_all a1 hb.2 0 _ a0 rfl
  have hle:=Lib.countB_le a1 hb.2 a0.size a0 (Nat.le_refl _)
  refine(Any.strings_Split Tryz.laysNm_146 (by kernel_rfl) a0 a1 m w hb.1 hm hb.2).mono ?_
  rintro e w' ⟨rfl,rfl⟩
  rw[← hlen]
  generalize Lib.splitB a1 0 (Lib.countB a0 a1) a0=l at hlen
  refine⟨_,rfl,⟨fun _ _=> trivial,l.map Value.string,?_,?_⟩,below_alloc (Below.refl _ _) _⟩
  ·have h2:=World.ownsRow_lit (base:=w.heap.size) (e:=9) (size:=1) w (l.map Value.string).toArray l.length (Nat.le_refl _) (by have:maxLen=9223372036854775807:=rfl;omega) (by simp)
   have h3:(w.alloc (.cells (l.map Value.string).toArray 9)).ownsRow w.heap.size 9 1 (.slice (some ⟨w.heap.size,0,none⟩) l.length l.length) l.length (l.map Value.string):=by simpa using h2
   exact h3
  ·refine⟨by rw[List.length_map];exact(Nat.mul_one _).symm,fun j p hj=> ?_⟩
   show((l.map Value.string).drop (j * 1)).take 1=[Value.string p]
   have hjl:=(List.getElem?_eq_some_iff.1 hj).1
   have hp:=(List.getElem?_eq_some_iff.1 hj).2
   rw[Nat.mul_one,List.drop_eq_getElem_cons (by simpa using hjl)]
   simp[hp]
 ·rw[if_neg hb]at h;cases h

-- NOT PRINTED: function 110 (bytealg_IndexByteString)

/-! ### stringslite_IndexByte: function 103 -/
def stringslite_IndexByte.f (a0:ByteArray) (a1:Int):Option (Int):=some (xt_indexByte a0 a1)
set_option maxHeartbeats 8000000 in
set_option maxRecDepth 100000 in
theorem stringslite_IndexByte.calls (a0:ByteArray) (a1:Int) (r:Int) (w:World) (h:stringslite_IndexByte.f a0 a1=some r) :
  Calls Tryz.prog 103 #[.string a0,.int .u8 a1] w fun e w'=> e=.returned (i6 r)∧Drawn0 w w':=by
 unfold stringslite_IndexByte.f at h
 have H:=h
 clear h
 obtain rfl:=Option.some.inj H
 go_enter Tryz.func103,Tryz.ntmps103
 go_wp2
 go_ret
 exact⟨by rfl,Drawn0.refl _⟩

-- NOT PRINTED: function 104 (bytealg_IndexString)

/-! ### stringslite_Index: function 94 -/
def stringslite_Index.j0:Nat→ByteArray→ByteArray→Int→Bool→Option (Int)
 |0,_,_,_,_=> none
 |k+1,x0,x1,x5,aJ=> if aJ=true then(some 0)else(if x5=1 then(if 0< (x1.size:Int)then((stringslite_IndexByte.f x0 (bt x1 0)).bind fun aB=> (some aB))else(none))else(if x5≥(x0.size:Int)then(some (-1))else(none)))
def stringslite_Index.f (k:Nat) (a0:ByteArray) (a1:ByteArray):Option (Int):=if(a1.size:Int)=0 then(stringslite_Index.j0 k a0 a1 (a1.size:Int) true)else(stringslite_Index.j0 k a0 a1 (a1.size:Int) (a1.toList==a0.toList))
theorem stringslite_Index.mono_l:∀ k,(∀ y0 y1 y2 y3,LeO (stringslite_Index.j0 k y0 y1 y2 y3) (stringslite_Index.j0 (k+1) y0 y1 y2 y3))
 |0=> fun _ _ _ _ r h=> by simp[stringslite_Index.j0]at h
 |k+1=> by
  have ih0:=stringslite_Index.mono_l k
  ·intro y0 y1 y2 y3
   unfold stringslite_Index.j0
   repeat' with_reducible first|apply ih0|apply LeO.refl|apply LeO.none|refine LeO.ite ?_ ?_|refine LeO.bind ?_ (fun _=> ?_)
theorem stringslite_Index.mono:∀ a0 a1 k,LeO (stringslite_Index.f k a0 a1) (stringslite_Index.f (k+1) a0 a1):=by
 intro a0 a1 k
 have ih0:=stringslite_Index.mono_l k
 unfold stringslite_Index.f
 repeat' with_reducible first|apply ih0|apply LeO.refl|apply LeO.none|refine LeO.ite ?_ ?_|refine LeO.bind ?_ (fun _=> ?_)
set_option maxHeartbeats 8000000 in
set_option maxRecDepth 100000 in
theorem stringslite_Index.calls (k:Nat) (a0:ByteArray) (a1:ByteArray) (r:Int) (w:World) (h:stringslite_Index.f k a0 a1=some r) :
  Calls Tryz.prog 94 #[.string a0,.string a1] w fun e w'=> e=.returned (i6 r)∧Drawn0 w w':=by
 unfold stringslite_Index.f at h
 have H:=h
 clear h
 have HC3:=am H
 clear H
 go_enter Tryz.func94,Tryz.ntmps94
 go_upto_region 2 with(fail)
 go_cut [16] (fun v16 wc=> ∃ (kq:Nat) (aA:Bool),v16=.bool aA∧Aside0 (stringslite_Index.j0 kq a0 a1 (a1.size:Int) aA=some r)∧Aside0 (kq≤k)∧Drawn0 w wc)
 case first=>
  have H:=HC3.out
  clear HC3
  by_cases c4:(a1.size:Int)=0
  ·rw[if_pos c4]at H
   have aC:=beq_iff_eq.mpr c4
   have aD:=bne_eq_false_iff_eq.mpr c4
   clear c4
   (skip)
   have H':=am H
   clear H
   go_wp2
   go_meet
   case rel=> exact⟨_,(true),(by rfl),H',⟨by omega⟩,Drawn0.refl _⟩
  ·rw[if_neg c4]at H
   have aC:=beq_eq_false_iff_ne.mpr c4
   have aD:=bne_iff_ne.mpr c4
   (skip)
   have H':=am H
   clear H
   go_wp2
   go_meet
   case rel=> exact⟨_,((a1.toList==a0.toList)),(by rfl),H',⟨by omega⟩,Drawn0.refl _⟩
 case rest=>
  clear HC3
  obtain⟨kq,aA,rfl,HA,aM,⟨mc2,rfl⟩⟩:=hcut
  cases kq with
  |zero=> exact absurd HA.out (by simp[stringslite_Index.j0])
  |succ aN=>
   have H:=HA.out
   clear HA
   simp only[stringslite_Index.j0]at H
   by_cases c5:aA=true
   ·subst c5
    have H1:(some 0)=some r:=by rw[if_pos rfl]at H;exact H
    clear H
    have H:=H1
    clear H1
    obtain rfl:=Option.some.inj H
    go_wp2
    go_ret
    exact⟨by rfl,by repeat(first|exact Drawn0.refl _|apply Drawn0.step)⟩
   ·replace c5:=Bool.eq_false_iff.mpr c5
    subst c5
    have H1:(if(a1.size:Int)=1 then(if 0< (a1.size:Int)then((stringslite_IndexByte.f a0 (bt a1 0)).bind fun aB=> (some aB))else(none))else(if(a1.size:Int)≥(a0.size:Int)then(some (-1))else(none)))=some r:=by rw[if_neg (show ¬ (false=true)by decide)]at H;exact H
    clear H
    have H:=H1
    clear H1
    by_cases c6:(a1.size:Int)=1
    ·rw[if_pos c6]at H
     have aE:=beq_iff_eq.mpr c6
     have aF:=bne_eq_false_iff_eq.mpr c6
     clear c6
     by_cases c7:0< (a1.size:Int)
     ·rw[if_pos c7]at H
      have aK:=decide_eq_true c7
      have aL:decide (0< a1.size)=true:=decide_eq_true (by omega)
      clear c7
      obtain⟨aB,aG,H⟩:=Option.bind_eq_some_iff.mp H
      try dsimp only at H
      have A9:=am aG
      clear aG
      obtain rfl:=Option.some.inj H
      have p8:0≤(0:Int):=(by omega)
      have q8:0< a1.size:=(by have:(0:Int)< (a1.size:Int):=of_decide_eq_true (by(with_reducible assumption));omega)
      have aO:∀ h:0< a1.size,((a1[0]'h).toNat:Int)=bt a1 0:=bt_at a1 0
      clear p8
      have aP:(0< (a1.size:Int))=True:=eq_true (of_decide_eq_true (by(with_reducible assumption)))
      replace q8:=eq_true q8
      go_wp2_with (first|((with_reducible refine gate_callee (f:=103) rfl ?_);refine goesL_ (some 30) rfl rfl Tryz.func103 (by kernel_rfl) rfl #[.string a0,.int .u8 (bt a1 0)] rfl (by(try simp only[l_m,l_c,l_n]);rfl) ?_;(with_reducible refine(stringslite_IndexByte.calls a0 (bt a1 0) aB _ A9.out).mono ?_);rintro e w' ⟨rfl,⟨nd,rfl⟩⟩;refine⟨_,rfl,?_⟩))
      go_ret
      exact⟨by rfl,by repeat(first|exact Drawn0.refl _|apply Drawn0.step)⟩
     ·rw[if_neg c7]at H
      exact absurd H (by simp)
    ·rw[if_neg c6]at H
     have aE:=beq_eq_false_iff_ne.mpr c6
     have aF:=bne_iff_ne.mpr c6
     by_cases c10:(a1.size:Int)≥(a0.size:Int)
     ·rw[if_pos c10]at H
      have aH:decide ((a0.size:Int)≤(a1.size:Int))=true:=decide_eq_true c10
      have aI:decide (a0.size≤a1.size)=true:=decide_eq_true (Int.ofNat_le.mp c10)
      clear c10
      obtain rfl:=Option.some.inj H
      go_wp2
      go_ret
      exact⟨by rfl,by repeat(first|exact Drawn0.refl _|apply Drawn0.step)⟩
     ·rw[if_neg c10]at H
      exact absurd H (by simp)

/-! ### stringslite_Cut: function 83 -/
def stringslite_Cut.f (k:Nat) (a0:ByteArray) (a1:ByteArray):Option (ByteArray×ByteArray×Bool):=(stringslite_Index.f k a0 a1).bind fun aA=> (if aA≥0 then(if 0≤aA then(if aA≤(a0.size:Int)then(if 0≤(wrap64 (aA+(a1.size:Int)))then(if(wrap64 (aA+(a1.size:Int)))≤(a0.size:Int)then(some (a0.extract 0 (aA:Int).toNat,a0.extract ((wrap64 (aA+(a1.size:Int))):Int).toNat a0.size,true))else(none))else(none))else(none))else(none))else(some (a0,(⟨#[]⟩:ByteArray),false)))
theorem stringslite_Cut.mono:∀ a0 a1 k,LeO (stringslite_Cut.f k a0 a1) (stringslite_Cut.f (k+1) a0 a1):=by
 intro a0 a1 k
 unfold stringslite_Cut.f
 repeat' with_reducible first|apply stringslite_Index.mono|apply LeO.refl|apply LeO.none|refine LeO.ite ?_ ?_|refine LeO.bind ?_ (fun _=> ?_)
set_option maxHeartbeats 8000000 in
set_option maxRecDepth 100000 in
theorem stringslite_Cut.calls (k:Nat) (a0:ByteArray) (a1:ByteArray) (r1:ByteArray) (r2:ByteArray) (r3:Bool) (w:World) (h:stringslite_Cut.f k a0 a1=some (r1,r2,r3)) :
  Calls Tryz.prog 83 #[.string a0,.string a1] w fun e w'=> e=.returned (.tuple #[.string r1,.string r2,.bool r3])∧Drawn0 w w':=by
 unfold stringslite_Cut.f at h
 have H:=h
 clear h
 obtain⟨aA,aC,H⟩:=Option.bind_eq_some_iff.mp H
 try dsimp only at H
 have A3:=am aC
 clear aC
 by_cases c4:aA≥0
 ·rw[if_pos c4]at H
  have aB:decide (0≤aA)=true:=decide_eq_true c4
  clear c4
  by_cases c5:0≤aA
  ·rw[if_pos c5]at H
   have aD:=eq_true c5
   have aE:=decide_eq_true c5
   clear c5
   by_cases c6:aA≤(a0.size:Int)
   ·rw[if_pos c6]at H
    have aF:=eq_true c6
    have aG:=decide_eq_true c6
    clear c6
    obtain⟨ji7,hji7⟩:∃ j_:Int,(wrap64 (aA+(a1.size:Int)))=j_:=⟨_,rfl⟩
    replace H:(if 0≤(ji7)then(if(ji7)≤(a0.size:Int)then(some (a0.extract 0 (aA:Int).toNat,a0.extract ((ji7):Int).toNat a0.size,true))else(none))else(none))=some (r1,r2,r3):=by(rw[hji7]at H;exact H)
    (try rw[hji7]at A3)
    have hji7w:(IntKind.i64.wrap (aA+(a1.size:Int)))=ji7:=(i64_w _).trans hji7
    by_cases c8:0≤(ji7)
    ·rw[if_pos c8]at H
     have aH:=eq_true c8
     have aI:=decide_eq_true c8
     clear c8
     by_cases c9:(ji7)≤(a0.size:Int)
     ·rw[if_pos c9]at H
      have aJ:=eq_true c9
      have aK:=decide_eq_true c9
      clear c9
      simp only[Option.some.injEq,Prod.mk.injEq]at H
      obtain⟨rfl,rfl,rfl⟩:=H
      go_enter Tryz.func83,Tryz.ntmps83
      go_wp2_with (first|(go_at_call 94;(with_reducible refine(stringslite_Index.calls k a0 a1 aA _ A3.out).mono ?_);rintro e w' ⟨rfl,⟨nd,rfl⟩⟩;(try first|exact⟨rfl,_,World.drewN_drewN _ _ _⟩|exact⟨rfl,_,Eq.trans (World.drewN_drewN _ _ _) (congrArg (World.drewN _) (Nat.add_assoc _ _ _))⟩)))
      repeat(go_quiet (fail);try go_wp2_with (fail))
      go_ret3
      exact⟨by first|rfl|(simp;done)|(simp only[← hji7]<;> (first|rfl|(simp;done)|(simp;exact(fun(l_:List UInt8)=> show l_.isEmpty=!(l_ !=[])from(by cases l_<;> rfl)) _)))|(simp[*];done),by repeat(first|exact Drawn0.refl _|apply Drawn0.step)⟩
     ·rw[if_neg c9]at H
      exact absurd H (by simp)
    ·rw[if_neg c8]at H
     exact absurd H (by simp)
   ·rw[if_neg c6]at H
    exact absurd H (by simp)
  ·rw[if_neg c5]at H
   exact absurd H (by simp)
 ·rw[if_neg c4]at H
  have aB:decide (0≤aA)=false:=decide_eq_false c4
  clear c4
  simp only[Option.some.injEq,Prod.mk.injEq]at H
  obtain⟨rfl,rfl,rfl⟩:=H
  go_enter Tryz.func83,Tryz.ntmps83
  go_wp2_with (first|(go_at_call 94;(with_reducible refine(stringslite_Index.calls k a0 a1 aA _ A3.out).mono ?_);rintro e w' ⟨rfl,⟨nd,rfl⟩⟩;(try first|exact⟨rfl,_,World.drewN_drewN _ _ _⟩|exact⟨rfl,_,Eq.trans (World.drewN_drewN _ _ _) (congrArg (World.drewN _) (Nat.add_assoc _ _ _))⟩)))
  repeat(go_quiet (fail);try go_wp2_with (fail))
  go_ret3
  exact⟨by rfl,by repeat(first|exact Drawn0.refl _|apply Drawn0.step)⟩

/-! ### strings_Cut: function 73 -/
def strings_Cut.f (k:Nat) (a0:ByteArray) (a1:ByteArray):Option (ByteArray×ByteArray×Bool):=(stringslite_Cut.f k a0 a1).bind fun aA=> (some (aA.1,aA.2.1,aA.2.2))
theorem strings_Cut.mono:∀ a0 a1 k,LeO (strings_Cut.f k a0 a1) (strings_Cut.f (k+1) a0 a1):=by
 intro a0 a1 k
 unfold strings_Cut.f
 repeat' with_reducible first|apply stringslite_Cut.mono|apply LeO.refl|apply LeO.none|refine LeO.ite ?_ ?_|refine LeO.bind ?_ (fun _=> ?_)
set_option maxHeartbeats 8000000 in
set_option maxRecDepth 100000 in
theorem strings_Cut.calls (k:Nat) (a0:ByteArray) (a1:ByteArray) (r1:ByteArray) (r2:ByteArray) (r3:Bool) (w:World) (h:strings_Cut.f k a0 a1=some (r1,r2,r3)) :
  Calls Tryz.prog 73 #[.string a0,.string a1] w fun e w'=> e=.returned (.tuple #[.string r1,.string r2,.bool r3])∧Drawn0 w w':=by
 unfold strings_Cut.f at h
 have H:=h
 clear h
 obtain⟨⟨aB,aC,aD⟩,aE,H⟩:=Option.bind_eq_some_iff.mp H
 try dsimp only at H
 have A3:=am aE
 clear aE
 simp only[Option.some.injEq,Prod.mk.injEq]at H
 obtain⟨rfl,rfl,rfl⟩:=H
 go_enter Tryz.func73,Tryz.ntmps73
 go_wp2_with (first|((with_reducible refine gate_callee (f:=83) rfl ?_);refine goesL_ (some 9) rfl rfl Tryz.func83 (by kernel_rfl) rfl #[.string a0,.string a1] rfl (by(try simp only[l_m,l_c,l_n]);rfl) ?_;(with_reducible refine(stringslite_Cut.calls k a0 a1 aB aC aD _ A3.out).mono ?_);rintro e w' ⟨rfl,⟨nd,rfl⟩⟩;refine⟨_,rfl,?_⟩))
 go_ret3
 exact⟨by rfl,by repeat(first|exact Drawn0.refl _|apply Drawn0.step)⟩

/-! ### ident_pair: function 66 -/
def ident_pair.atoiR (s:ByteArray):Option Int:=match Lib.atoiAll s.data.toList with|.ok v=> some v|_=> none
theorem ident_pair.atoi_ok (s:ByteArray) (hlim:s.size≤281474976710656) (v:Int) (hv:ident_pair.atoiR s=some v) (w:World):Calls Tryz.prog 74 #[.string s] w fun e w'=> e=.returned (.tuple #[i6 v,.nilIface])∧Below w.heap.size w w':=by
 unfold ident_pair.atoiR at hv
 rcases h:Lib.atoiAll s.data.toList with x|_|_
 ·rw[h]at hv
  obtain rfl:=Option.some.inj hv
  refine(Any.strconv_Atoi_ok Tryz.laysNm_172 s (by omega) x h w).mono ?_
  rintro e w' ⟨rfl,hw⟩
  refine⟨rfl,?_⟩
  rcases hw with rfl|⟨t,rfl⟩
  ·exact Below.refl _ _
  ·exact Go.Joins.below_bytesWorld _ _ _ _ (Nat.le_refl _)
 ·rw[h]at hv;cases hv
 ·rw[h]at hv;cases hv
theorem ident_pair.atoi_bad (s:ByteArray) (hlim:s.size≤281474976710656) (hv:ident_pair.atoiR s=none) (w:World) (hw_:WH w):Calls Tryz.prog 74 #[.string s] w fun e w'=> ∃ v t p,e=.returned (.tuple #[i6 v,.iface t p])∧Below w.heap.size w w':=by
 obtain⟨t1,p1,h1⟩:=hw_.syn
 obtain⟨t2,p2,h2⟩:=hw_.rng
 unfold ident_pair.atoiR at hv
 rcases h:Lib.atoiAll s.data.toList with x|_|_
 ·rw[h]at hv;cases hv
 ·refine(Any.strconv_Atoi_syntax_var Tryz.laysNm_172 s hlim h t1 p1 w h1).mono ?_
  rintro e w' ⟨N,rfl,_,_,hb⟩
  exact⟨_,_,_,rfl,hb⟩
 ·refine(Any.strconv_Atoi_range_var Tryz.laysNm_172 s hlim h t2 p2 w h2).mono ?_
  rintro e w' ⟨N,rfl,_,_,hb⟩
  exact⟨_,_,_,rfl,hb⟩
def ident_pair.pairR (a b:ByteArray):Int×Int:=match ident_pair.atoiR a,ident_pair.atoiR b with|some x,some y=> (x,y)|_,_=> (-1,-1)
def ident_pair.f (k:Nat) (a0 a1:ByteArray):Option (Int×Int):=(strings_Cut.f k a0 a1).bind fun c=> if c.1.size≤281474976710656∧c.2.1.size≤281474976710656 then some (ident_pair.pairR c.1 c.2.1)else none
theorem ident_pair.mono:∀ a0 a1 k,LeO (ident_pair.f k a0 a1) (ident_pair.f (k+1) a0 a1):=by
 intro a0 a1 k
 unfold ident_pair.f
 exact LeO.bind (strings_Cut.mono _ _ _) (fun _=> LeO.refl _)
set_option maxHeartbeats 8000000 in
set_option maxRecDepth 100000 in
theorem ident_pair.calls (k:Nat) (a0 a1:ByteArray) (r1 r2:Int) (w:World) (hw_:WH w) (h:ident_pair.f k a0 a1=some (r1,r2)):Calls Tryz.prog 66 #[.string a0,.string a1] w fun e w'=> e=.returned (.tuple #[i6 r1,i6 r2])∧Below w.heap.size w w':=by
 have HB:=am (Below.refl w.heap.size w)
 have HW:=am hw_
 unfold ident_pair.f at h
 obtain⟨⟨c1,c2,c3⟩,hc,h⟩:=Option.bind_eq_some_iff.1 h
 have HC:=am hc
 replace h:(if c1.size≤281474976710656∧c2.size≤281474976710656 then some (ident_pair.pairR c1 c2)else none)=some (r1,r2):=h
 by_cases hs:c1.size≤281474976710656∧c2.size≤281474976710656
 case neg=> rw[if_neg hs]at h;cases h
 rw[if_pos hs]at h
 have h0:=Option.some.inj h
 have HS:=am hs
 clear h hs hc hw_
 cases h1:ident_pair.atoiR c1 with
 |some x=>
  have H1:=am h1
  cases h2:ident_pair.atoiR c2 with
  |some y=>
   have H2:=am h2
   unfold ident_pair.pairR at h0
   rw[h1,h2]at h0
   simp only[Prod.mk.injEq]at h0
   obtain⟨rfl,rfl⟩:=h0
   clear h1 h2
   go_enter Tryz.func66,Tryz.ntmps66
   go_wp2_with (first|(go_at_call 73;(with_reducible refine(strings_Cut.calls k a0 a1 c1 c2 c3 _ HC.out).mono ?_);rintro e w1 ⟨rfl,hd⟩;have hb:=Drawn0.below hd;replace HB:=am (below_step (HB.out) hb);clear hb hd)|(go_at_call 74;(with_reducible refine(ident_pair.atoi_ok c1 HS.out.1 x H1.out _).mono ?_);rintro e w2 ⟨rfl,hb⟩;replace HB:=am (below_step (HB.out) hb);clear hb)|(go_at_call 74;(with_reducible refine(ident_pair.atoi_ok c2 HS.out.2 y H2.out _).mono ?_);rintro e w3 ⟨rfl,hb⟩;replace HB:=am (below_step (HB.out) hb);clear hb))
   go_ret2
   exact⟨rfl,(HB.out)⟩
  |none=>
   have H2:=am h2
   unfold ident_pair.pairR at h0
   rw[h1,h2]at h0
   simp only[Prod.mk.injEq]at h0
   obtain⟨rfl,rfl⟩:=h0
   clear h1 h2
   go_enter Tryz.func66,Tryz.ntmps66
   go_wp2_with (first|(go_at_call 73;(with_reducible refine(strings_Cut.calls k a0 a1 c1 c2 c3 _ HC.out).mono ?_);rintro e w1 ⟨rfl,hd⟩;have hb:=Drawn0.below hd;replace HB:=am (below_step (HB.out) hb);clear hb hd)|(go_at_call 74;(with_reducible refine(ident_pair.atoi_ok c1 HS.out.1 x H1.out _).mono ?_);rintro e w2 ⟨rfl,hb⟩;replace HB:=am (below_step (HB.out) hb);clear hb)|(go_at_call 74;(with_reducible refine(ident_pair.atoi_bad c2 HS.out.2 H2.out _ (WH.below HW.out (HB.out))).mono ?_);rintro e w3 ⟨v2,t2,p2,rfl,hb⟩;replace HB:=am (below_step (HB.out) hb);clear hb))
   go_ret2
   exact⟨rfl,(HB.out)⟩
 |none=>
  have H1:=am h1
  have h0':r1=-1∧r2=-1:=by
   unfold ident_pair.pairR at h0
   rw[h1]at h0
   simp only[Prod.mk.injEq]at h0
   exact⟨h0.1.symm,h0.2.symm⟩
  obtain⟨rfl,rfl⟩:=h0'
  clear h0 h1
  cases h2:ident_pair.atoiR c2 with
  |some y=>
   have H2:=am h2
   clear h2
   go_enter Tryz.func66,Tryz.ntmps66
   go_wp2_with (first|(go_at_call 73;(with_reducible refine(strings_Cut.calls k a0 a1 c1 c2 c3 _ HC.out).mono ?_);rintro e w1 ⟨rfl,hd⟩;have hb:=Drawn0.below hd;replace HB:=am (below_step (HB.out) hb);clear hb hd)|(go_at_call 74;(with_reducible refine(ident_pair.atoi_bad c1 HS.out.1 H1.out _ (WH.below HW.out (HB.out))).mono ?_);rintro e w2 ⟨v1,t1,p1,rfl,hb⟩;replace HB:=am (below_step (HB.out) hb);clear hb)|(go_at_call 74;(with_reducible refine(ident_pair.atoi_ok c2 HS.out.2 y H2.out _).mono ?_);rintro e w3 ⟨rfl,hb⟩;replace HB:=am (below_step (HB.out) hb);clear hb))
   go_ret2
   exact⟨rfl,(HB.out)⟩
  |none=>
   have H2:=am h2
   clear h2
   go_enter Tryz.func66,Tryz.ntmps66
   go_wp2_with (first|(go_at_call 73;(with_reducible refine(strings_Cut.calls k a0 a1 c1 c2 c3 _ HC.out).mono ?_);rintro e w1 ⟨rfl,hd⟩;have hb:=Drawn0.below hd;replace HB:=am (below_step (HB.out) hb);clear hb hd)|(go_at_call 74;(with_reducible refine(ident_pair.atoi_bad c1 HS.out.1 H1.out _ (WH.below HW.out (HB.out))).mono ?_);rintro e w2 ⟨v1,t1,p1,rfl,hb⟩;replace HB:=am (below_step (HB.out) hb);clear hb)|(go_at_call 74;(with_reducible refine(ident_pair.atoi_bad c2 HS.out.2 H2.out _ (WH.below HW.out (HB.out))).mono ?_);rintro e w3 ⟨v2,t2,p2,rfl,hb⟩;replace HB:=am (below_step (HB.out) hb);clear hb))
   go_ret2
   exact⟨rfl,(HB.out)⟩

/-! ### ident_Parse: function 53 -/
def ident_Parse.l0:Nat→ByteArray→List ByteArray→Int→Int→Int→Int→List (S46)→Option (Int×Int×(List (S46))×Int)
 |0,_,_,_,_,_,_,_=> none
 |k+1,x0,eA,eS,bY,aV,aW,aR=> if bY< eS then(if 0≤bY then(if bY< (eA.length:Int)then((ident_pair.f k (rdOf ByteArray.empty eA bY) (⟨#[64]⟩:ByteArray)).bind fun bO=> (if aR.length< 8796093022208 then(ident_Parse.l0 k x0 eA eS (wrap64 (bY+1)) aV aW (aR++[(⟨bO.1,bO.2⟩:S46)]))else(none)))else(none))else(none))else((ident_Show.f k aV aW aR).bind fun bP=> (if bP.2=0 then(if bP.1.toList=x0.toList then(some (aV,aW,aR,0))else(some (0,0,([]:List (S46)),30)))else(some (0,0,([]:List (S46)),30))))
def ident_Parse.f (k:Nat) (a0:ByteArray):Option (Int×Int×(List (S46))×Int):=if(a0.size:Int)> 100 then(some (0,0,([]:List (S46)),30))else((strings_Split.f a0 (⟨#[47]⟩:ByteArray)).bind fun aH=> (if 0< (aH.length:Int)then((ident_pair.f k (rdOf ByteArray.empty aH 0) (⟨#[46]⟩:ByteArray)).bind fun bQ=> (if 1≤(aH.length:Int)then((some (aH.drop 1:List ByteArray)).bind fun aI=> (ident_Parse.l0 k a0 aI (aI.length:Int) 0 bQ.1 bQ.2 ([]:List (S46))))else(none)))else(none)))
theorem ident_Parse.mono_l:∀ k,(∀ y0 y1 y2 y3 y4 y5 y6,LeO (ident_Parse.l0 k y0 y1 y2 y3 y4 y5 y6) (ident_Parse.l0 (k+1) y0 y1 y2 y3 y4 y5 y6))
 |0=> fun _ _ _ _ _ _ _ r h=> by simp[ident_Parse.l0]at h
 |k+1=> by
  have ih0:=ident_Parse.mono_l k
  ·intro y0 y1 y2 y3 y4 y5 y6
   unfold ident_Parse.l0
   repeat' with_reducible first|apply ih0|apply ident_Show.mono|apply ident_pair.mono|apply LeO.refl|apply LeO.none|refine LeO.ite ?_ ?_|refine LeO.bind ?_ (fun _=> ?_)
theorem ident_Parse.mono:∀ a0 k,LeO (ident_Parse.f k a0) (ident_Parse.f (k+1) a0):=by
 intro a0 k
 have ih0:=ident_Parse.mono_l k
 unfold ident_Parse.f
 repeat' with_reducible first|apply ih0|apply ident_Show.mono|apply ident_pair.mono|apply LeO.refl|apply LeO.none|refine LeO.ite ?_ ?_|refine LeO.bind ?_ (fun _=> ?_)
set_option maxHeartbeats 8000000 in
set_option maxRecDepth 100000 in
theorem ident_Parse.calls (k:Nat) (a0:ByteArray) (r1:Int) (r2:Int) (r3:List (S46)) (r4:Int) (w:World) (hw_:WH w) (h:ident_Parse.f k a0=some (r1,r2,r3,r4)) :
  Calls Tryz.prog 53 #[.string a0] w fun e w'=> ∃ v2_:Value,e=.returned (.tuple #[.agg #[i6 r1,i6 r2,v2_],i6 r4])∧Kd.R k46 46 w' w.heap.size (fun _=> True) v2_ r3∧Below w.heap.size w w':=by
 have hu24:=Tryz.underlying24
 have hu55:=Tryz.underlying46
 have HWH_:=am hw_
 clear hw_
 have HB:=am (Below.refl w.heap.size w)
 unfold ident_Parse.f at h
 have H:=h
 clear h
 by_cases c2:(a0.size:Int)> 100
 ·rw[if_pos c2]at H
  have bZ:decide (100< (a0.size:Int))=true:=decide_eq_true c2
  have b0:decide (100< a0.size)=true:=decide_eq_true (by omega)
  clear c2
  simp only[Option.some.injEq,Prod.mk.injEq]at H
  obtain⟨rfl,rfl,rfl,rfl⟩:=H
  go_enter Tryz.func53,Tryz.ntmps53
  go_wp2_with (first|((with_reducible refine gate_dst (N:=2) rfl ?_);refine box_event ?hg (N:=2) ?hd (cs:=#[i6 0,i6 0,.slice none 0 0]) (t:=24) ?hr ?_;(case hd=> rfl);(case hg=> rfl);(case hr=> (go_simp;done));intro aM hg w3 hbox hb;have aA:=am (hbox);have b1:=am (gsz hg HB.out);have aZ:=am (gsz hg HB.out);replace HB:=am (below_step (HB.out) hb);clear hb hbox hg;obtain⟨eB,eC,eD⟩:=bc3 aA.out;obtain⟨eE,eF,eG⟩:=bf3 aA.out))
  refine bodyPost_ret (results_ct rfl _ _ aM 24 #[i6 0,i6 0,.slice none 0 0] (0,0) _ rfl (bp (bp (bp aA.out 0) 1) 2) Tryz.underlying24 rfl (by kernel_rfl)) rfl ?_
  exact⟨_,by rfl,by exact Kd.R_nil _ _ _ _ _,bs3 HB.out aZ.out⟩
 ·rw[if_neg c2]at H
  have bZ:decide (100< (a0.size:Int))=false:=decide_eq_false c2
  have b0:decide (100< a0.size)=false:=decide_eq_false (by omega)
  clear c2
  obtain⟨aH,eT,H⟩:=Option.bind_eq_some_iff.mp H
  try dsimp only at H
  have A5:=am eT
  clear eT
  by_cases c6:0< (aH.length:Int)
  ·rw[if_pos c6]at H
   have eH:=decide_eq_true c6
   have eI:decide (0< aH.length)=true:=decide_eq_true (by omega)
   clear c6
   obtain⟨⟨aN,aQ⟩,eU,H⟩:=Option.bind_eq_some_iff.mp H
   try dsimp only at H
   have A7:=am eU
   clear eU
   by_cases c8:1≤(aH.length:Int)
   ·rw[if_pos c8]at H
    have eJ:=eq_true c8
    have eK:=decide_eq_true c8
    clear c8
    obtain⟨aI,hy182⟩:∃ y_:List ByteArray,y_=(aH.drop 1):=⟨_,rfl⟩
    replace H:(ident_Parse.l0 k a0 aI (aI.length:Int) 0 aN aQ ([]:List (S46)))=some (r1,r2,r3,r4):=by(have H2_:=(Option.bind_some _ _).symm.trans H;rw[hy182];with_reducible exact H2_)
    have Ny182:=am hy182
    clear hy182
    have H':=am H
    clear H
    go_enter Tryz.func53,Tryz.ntmps53
    go_wp2_with (first|((with_reducible refine gate_dst (N:=2) rfl ?_);refine box_event ?hg (N:=2) ?hd (cs:=#[i6 0,i6 0,.slice none 0 0]) (t:=24) ?hr ?_;(case hd=> rfl);(case hg=> rfl);(case hr=> (go_simp;done));intro aM hg w9 hbox hb;have aA:=am (hbox);have b1:=am (gsz hg HB.out);have aZ:=am (gsz hg HB.out);replace HB:=am (below_step (HB.out) hb);clear hb hbox hg)|((with_reducible refine gate_callee (f:=65) rfl ?_);refine goesL_ (some 17) rfl rfl Tryz.func65 (by kernel_rfl) rfl #[.string a0,.string (⟨#[47]⟩:ByteArray)] rfl (by(try simp only[l_m,l_c,l_n]);rfl) ?_;(with_reducible refine(strings_Split.calls a0 (⟨#[47]⟩:ByteArray) aH _ ?side1 A5.out).mono ?_);(case side1=> exact WH.below HWH_.out (HB.out));rintro e fG ⟨v176,rfl,ho0,hb⟩;refine⟨_,rfl,?_⟩;have aE:=am (Kd.R_lower ho0 (below_size (HB.out)));replace aA:=am (blk_below aA.out hb);replace HB:=am (below_step (HB.out) hb);clear hb ho0)|((with_reducible refine gate_dst (N:=5) rfl ?_);refine box_event ?hg (N:=5) ?hd (cs:=#[i6 0,i6 0,.slice none 0 0]) (t:=24) ?hr ?_;(case hd=> rfl);(case hg=> rfl);(case hr=> (go_simp;done));intro aT hg fH hbox hb;replace aE:=am (Kd.R_below (by exact aE.out) hb);have aC:=am (hbox);have eV:=am (gsz hg HB.out);have a1:=am (gsz hg HB.out);replace HB:=am (below_step (HB.out) hb);have aG:=am ((by rw[hg];exact Nat.ne_of_lt (blk_lt aA.out):aM≠aT));have aJ:=am ((by rw[hg];exact Nat.ne_of_gt (blk_lt aA.out):aT≠aM));replace aA:=am (blk_below aA.out hb);clear hb hbox hg;obtain⟨fC,aX,eo12⟩:=Kd.R_slice aE.out;subst eo12;have a8:0≤(0:Int):=(by omega);have a9:0< (aH.length:Int):=of_decide_eq_true (by(with_reducible assumption));obtain⟨aU,e179,aY⟩:=Kd.at_string (Kd.R_reads' aE.out).2.2 0 a8 a9;cases e179;have eW:(0< aH.length)=True:=eq_true (by omega);(try rw[show((0:Int)).toNat=0 from rfl]at aY);(try rw[Addr.add_zero']at aY);replace a8:=eq_true a8;replace a9:=eq_true a9)|((with_reducible refine gate_callee (f:=66) rfl ?_);refine goesL_ (some 22) rfl rfl Tryz.func66 (by kernel_rfl) rfl #[.string (rdOf ByteArray.empty aH 0),.string (⟨#[46]⟩:ByteArray)] rfl (by(try simp only[l_m,l_c,l_n]);rfl) ?_;(with_reducible refine(ident_pair.calls k (rdOf ByteArray.empty aH 0) (⟨#[46]⟩:ByteArray) aN aQ _ ?side1 A7.out).mono ?_);(case side1=> exact WH.below HWH_.out (HB.out));rintro e fD ⟨rfl,hb⟩;refine⟨_,rfl,?_⟩;replace aE:=am (Kd.R_below (by exact aE.out) hb);replace aA:=am (blk_below aA.out hb);replace aC:=am (blk_below aC.out hb);replace HB:=am (below_step (HB.out) hb);clear hb;have eX:=aJ.out;have eY:=aG.out;obtain⟨bA,bB,bC⟩:=bc3 aC.out;obtain⟨bD,bE,bF⟩:=bf3 aC.out)|((with_reducible refine gate_store (t:=3) (p:=25) rfl ?_);refine store_event (t:=3) (p:=25) (v:=?vo_w16) (w1:=(fD.setCell ⟨aT,0,none⟩ (i6 aN))) ?hg ?ho ?hn ?hr ?_;(case ho=> rfl);(case hg=> rfl);(case hn=> rfl);(case hr=> (go_simp;done));intro b2 hw;have a2:Aside0 (Kd.R Kd.string 9 b2 w.heap.size (fun _=> True) (.slice (some aU) aH.length aX) aH):=⟨(by rw[hw];exact(by exact Kd.R_mono (rf (Kd.R_types aE.out aC.out (by decide))) (fun _ hk=> trivial)))⟩;have a3:Aside0 (b2.heap[aM]?=some (.cells #[i6 0,i6 0,.slice none 0 0] 24 (0,0))):=⟨(by rw[hw];exact(by refine blk_far ?_ aG.out _;exact aA.out))⟩;have a4:Aside0 (b2.heap[aT]?=some (.cells #[i6 aN,i6 0,.slice none 0 0] 24 (0,0))):=⟨(by rw[hw];exact(bp aC.out 0))⟩;have a5:Aside0 (Below w.heap.size w b2):=⟨(by rw[hw];exact(below_set HB.out a1.out))⟩;clear hw aE aA aC HB;have aE:=a2;have aA:=a3;have aC:=a4;have HB:=a5;clear a2 a3 a4 a5;obtain⟨bG,bH,bI⟩:=bc3 aC.out;obtain⟨bJ,bK,bL⟩:=bf3 aC.out)|((with_reducible refine gate_store (t:=3) (p:=26) rfl ?_);refine store_event (t:=3) (p:=26) (v:=?vo_w18) (w1:=(b2.setCell ⟨aT,1,none⟩ (i6 aQ))) ?hg ?ho ?hn ?hr ?_;(case ho=> rfl);(case hg=> rfl);(case hn=> rfl);(case hr=> (go_simp;done));intro cD hw;have a2:Aside0 (Kd.R Kd.string 9 cD w.heap.size (fun _=> True) (.slice (some aU) aH.length aX) aH):=⟨(by rw[hw];exact(by exact Kd.R_mono (rf (Kd.R_types aE.out aC.out (by decide))) (fun _ hk=> trivial)))⟩;have a3:Aside0 (cD.heap[aM]?=some (.cells #[i6 0,i6 0,.slice none 0 0] 24 (0,0))):=⟨(by rw[hw];exact(by refine blk_far ?_ aG.out _;exact aA.out))⟩;have a4:Aside0 (cD.heap[aT]?=some (.cells #[i6 aN,i6 aQ,.slice none 0 0] 24 (0,0))):=⟨(by rw[hw];exact(bp aC.out 1))⟩;have a5:Aside0 (Below w.heap.size w cD):=⟨(by rw[hw];exact(below_set HB.out a1.out))⟩;clear hw aE aA aC HB;have aE:=a2;have aA:=a3;have aC:=a4;have HB:=a5;clear a2 a3 a4 a5;have cE:(1:Int)≤((aH.length:Int):Int):=of_decide_eq_true (by(with_reducible assumption));obtain⟨i019,hi019,_,hsz19,_⟩:=info_parts info9;have hroom19:aH.length≤aX:=(Kd.R_reads' aE.out).2.1;have hC19:Kd.C Kd.string _ (some aU) aH.length aH:=(Kd.R_reads' aE.out).2.2;have hcut19:=cut_from (P:=Tryz.prog) 105 9 .i64 Tryz.underlying105 hi019 1 hsz19 (some aU) aH.length aX 1 (by omega) cE;have hr19:=Kd.C_drop (m:=(1:Int).toNat) (c:=aX) hC19 (by omega) hroom19;obtain⟨eZ,hA19⟩:∃ A1,A1=(if aX=(1:Int).toNat then(some aU)else((some aU):Option Addr).map (·.add ((1:Int).toNat * 1))):=⟨_,rfl⟩;obtain⟨fE,hc19⟩:∃ c1,c1=aX - (1:Int).toNat:=⟨_,rfl⟩;have hy19:aI.length=aH.length - (1:Int).toNat:=(by rw[Ny182.out,List.length_drop]<;> omega);rw[show(aH).drop (1:Int).toNat=aI from Ny182.out.symm]at hr19;replace hr19:Kd.C Kd.string _ eZ aI.length aI:=(by rw[hA19];exact hr19);rw[← hy19,← hA19,← hc19]at hcut19;have HR185:=am hr19;have HC185:=am (show aI.length≤fE from by rw[hy19,hc19];exact Nat.sub_le_sub_right hroom19 _);clear hr19 hC19 hroom19 hi019 hsz19 hc19;have KY19:=am hy19;have KA19:=am hA19;clear hy19 hA19;have KL19:=am (show 1≤aH.length from by omega);replace cE:=eq_true cE))
    go_loopg [30] k (fun kq v30 w'=> ∃ (aK:Int) (aD:List (S46)) (u179002:Value),v30=i6 aK∧Aside0 (ident_Parse.l0 kq a0 aI (aI.length:Int) aK aN aQ aD=some (r1,r2,r3,r4))∧Aside0 (kq≤k)∧Aside0 (Kd.R k46 46 w' w.heap.size (fun _=> True) u179002 aD)∧Aside0 (w'.heap[aM]?=some (.cells #[i6 0,i6 0,(.slice none 0 0)] 24 (0,0)))∧Aside0 (w'.heap[aT]?=some (.cells #[i6 aN,i6 aQ,u179002] 24 (0,0)))∧Aside0 (Kd.R Kd.string 9 w' w.heap.size (fun _=> True) (.slice (some aU) aH.length aX) aH)∧Aside0 (Below w.heap.size w w'))
    case atStart=> exact⟨(0),(([]:List (S46))),(.slice none 0 0),(by rfl),H',⟨Nat.le_refl _⟩,⟨by exact Kd.R_nil _ _ _ _ _⟩,⟨by exact aA.out⟩,⟨by exact aC.out⟩,⟨by exact aE.out⟩,⟨HB.out⟩⟩
    case round=>
     clear H'
     clear bZ b0 eH eI eJ eK cE bA bB bC bG bH bI bD bE bF bJ bK bL aY a8 a9
     obtain⟨aK,aD,u179002,rfl,HA,e0,HO_179002,aA,aC,aE,HB⟩:=hrel
     cases gk with
     |zero=> exact absurd HA.out (by simp[ident_Parse.l0])
     |succ k1=>
      have H:=HA.out
      clear HA
      simp only[ident_Parse.l0]at H
      by_cases bX:aK< (aI.length:Int)
      ·rw[if_pos bX]at H
       have b3:=decide_eq_true bX
       clear bX
       by_cases cF:0≤aK
       ·rw[if_pos cF]at H
        have e1:=decide_eq_true cF
        clear cF
        by_cases cG:aK< (aI.length:Int)
        ·rw[if_pos cG]at H
         have e2:=decide_eq_true cG
         clear cG
         obtain⟨⟨a6,a7⟩,b4,H⟩:=Option.bind_eq_some_iff.mp H
         try dsimp only at H
         have fF:=am b4
         clear b4
         by_cases cH:aD.length< 8796093022208
         ·rw[if_pos cH]at H
          have LMc24:=am cH
          clear cH
          obtain⟨bS,hy189⟩:∃ y_:List (S46),y_=(aD++[(⟨a6,a7⟩:S46)]):=⟨_,rfl⟩
          replace H:(ident_Parse.l0 k1 a0 aI (aI.length:Int) (wrap64 (aK+1)) aN aQ bS)=some (r1,r2,r3,r4):=by(rw[hy189];with_reducible exact H)
          have Ny189:=am hy189
          clear hy189
          have H':=am H
          clear H
          have bT:0≤(aK:Int):=of_decide_eq_true (by(with_reducible assumption))
          have bU:aK< (aI.length:Int):=of_decide_eq_true (by(with_reducible assumption))
          have hr186:=Kd.C_drop (m:=(1:Int).toNat) (c:=aX) (Kd.R_reads' aE.out).2.2 (by have:=KL19.out;omega) (Kd.R_reads' aE.out).2.1
          rw[show(aH).drop (1:Int).toNat=aI from Ny182.out.symm]at hr186
          replace hr186:Kd.C Kd.string _ eZ aI.length aI:=(by rw[KA19.out];exact hr186)
          have HR185:=am hr186
          clear hr186
          obtain⟨e3,e186,cI⟩:=Kd.at_string HR185.out aK bT bU
          cases e186
          replace bT:=eq_true bT
          replace bU:=eq_true bU
          go_wp2_with (first|((with_reducible refine gate_callee (f:=66) rfl ?_);refine goesL_ (some 36) rfl rfl Tryz.func66 (by kernel_rfl) rfl #[.string (rdOf ByteArray.empty aI aK),.string (⟨#[64]⟩:ByteArray)] rfl (by(try simp only[l_m,l_c,l_n]);rfl) ?_;(with_reducible refine(ident_pair.calls k1 (rdOf ByteArray.empty aI aK) (⟨#[64]⟩:ByteArray) a6 a7 _ ?side1 fF.out).mono ?_);(case side1=> exact WH.below HWH_.out (HB.out));rintro e fI ⟨rfl,hb⟩;refine⟨_,rfl,?_⟩;have a2:=am (Kd.R_below (by exact HO_179002.out) hb);have a3:=am (blk_below aA.out hb);have a4:=am (blk_below aC.out hb);have a5:=am (below_step (HB.out) hb);have b5:=am (Kd.R_below (by exact aE.out) hb);clear aE;have aE:=b5;clear b5 HO_179002 aA aC HB;have HO_179002:=a2;have aA:=a3;have aC:=a4;have HB:=a5;clear a2 a3 a4 a5;clear hb;have e4:=aJ.out;have e5:=aG.out;obtain⟨cJ,cK,cL⟩:=bc3 aC.out;obtain⟨cM,cN,cO⟩:=bf3 aC.out)|((with_reducible refine gate_builtin (b:=.append) (xs:=#[.tmp 40,.tmp 44]) rfl ?_);at_builtin;refine Kd.R_append k46 (w0:=w) w.heap.size rfl (.tmp 40) (.tmp 44) 22 46 (.agg #[(i6 0),(i6 0)]) 16 rfl Tryz.underlying22 info46 rfl (by decide) (by omega) u179002 aD (⟨a6,a7⟩:S46) [i6 a6,i6 a7] (fun _=> True) (fun _=> False) rfl rfl ?aP (fun _ hk=> hk.elim) ?aF ?aO ?aB ?aS ?aL ?_;(case aP=> exact k46_mkM _ _ _ (⟨a6,a7⟩:S46));(case aB=> exact(HB.out));(case aF=> exact(fun _ _=> trivial));(case aO=> exact(by exact HO_179002.out));(case aS=> exact(below_size (HB.out)));(case aL=> have:=LMc24.out;omega);intro v190 fJ ho hb hg hat;rw[← Ny189.out]at ho;have a2:=am (blk_grown aA.out hg (Kd.R_ne HO_179002.out aA.out (by decide)));have a3:=am (blk_grown aC.out hg (Kd.R_ne HO_179002.out aC.out (by decide)));have a4:=am (hb);have a5:=am (ho);have b5:=am (Kd.R_mono (Kd.R_grown (Kd.R_apart' (by exact aE.out) (Kd.R_typed (by exact HO_179002.out)) (by decide)) hg (fun k hk=> hk.2)) (fun _ _=> trivial));clear aE;have aE:=b5;clear b5 aA aC HB HO_179002;have aA:=a2;have aC:=a3;have HB:=a4;have bR:=a5;clear a2 a3 a4 a5;clear ho hb hg hat;obtain⟨eL,eM,eo29⟩:=Kd.R_slice bR.out;subst eo29;obtain⟨cP,cQ,cR⟩:=bc3 aC.out;obtain⟨cS,cT,cU⟩:=bf3 aC.out))
          go_roundg k1
          case measure=> have:=e0.out;omega
          case rel=> exact⟨(wrap64 (aK+1)),(bS),(.slice eL bS.length eM),(by rfl),H',⟨by have:=e0.out;omega⟩,⟨by exact Kd.R_mono (rf (Kd.R_types bR.out aC.out (by decide))) (fun _ hk=> trivial)⟩,⟨by refine blk_far ?_ aG.out _;exact aA.out⟩,⟨by exact bp aC.out 2⟩,⟨by exact Kd.R_mono (rf (Kd.R_types aE.out aC.out (by decide))) (fun _ hk=> trivial)⟩,⟨below_set HB.out a1.out⟩⟩
         ·rw[if_neg cH]at H
          exact absurd H (by simp)
        ·rw[if_neg cG]at H
         exact absurd H (by simp)
       ·rw[if_neg cF]at H
        exact absurd H (by simp)
      ·rw[if_neg bX]at H
       have b3:=decide_eq_false bX
       clear bX
       obtain⟨⟨bM,bN⟩,b6,H⟩:=Option.bind_eq_some_iff.mp H
       try dsimp only at H
       have eN:=am b6
       clear b6
       by_cases bV:bN=0
       ·rw[if_pos bV]at H
        have b7:=beq_iff_eq.mpr bV
        have b8:=bne_eq_false_iff_eq.mpr bV
        clear bV
        by_cases bW:bM.toList=a0.toList
        ·rw[if_pos bW]at H
         have b9:=beq_iff_eq.mpr bW
         have cA:=bne_eq_false_iff_eq.mpr bW
         clear bW
         simp only[Option.some.injEq,Prod.mk.injEq]at H
         obtain⟨rfl,rfl,rfl,rfl⟩:=H
         have e6:=aJ.out
         have e7:=aG.out
         obtain⟨cV,cW,cX⟩:=bc3 aC.out
         obtain⟨cY,cZ,c0⟩:=bf3 aC.out
         obtain⟨cB,cC,eo36⟩:=Kd.R_slice HO_179002.out
         subst eo36
         go_wp2_with (first|((with_reducible refine gate_callee (f:=19) rfl ?_);refine goesL_ (some 50) rfl rfl Tryz.func19 (by kernel_rfl) rfl #[.agg #[i6 aN,i6 aQ,.slice cB aD.length cC]] rfl (by(try simp only[l_m,l_c,l_n]);rfl) ?_;(with_reducible refine(ident_Show.calls k1 aN aQ _ _ aD bM bN _ ?side1 ?side2 ?side3 eN.out).mono ?_);(case side1=> exact(Kd.R_reads' HO_179002.out).2.2);(case side2=> exact(Kd.R_reads' HO_179002.out).2.1);(case side3=> exact WH.below HWH_.out (HB.out));rintro e fK ⟨rfl,hb⟩;refine⟨_,rfl,?_⟩;replace HO_179002:=am (Kd.R_below (by exact HO_179002.out) hb);replace aA:=am (blk_below aA.out hb);replace aC:=am (blk_below aC.out hb);replace HB:=am (below_step (HB.out) hb);clear hb;obtain⟨dA,dB,dC⟩:=bc3 aC.out;obtain⟨dD,dE,dF⟩:=bf3 aC.out;obtain⟨dG,dH,dI⟩:=bc3 aA.out;obtain⟨dJ,dK,dL⟩:=bf3 aA.out))
         refine bodyPost_ret (results_ct rfl _ _ aM 24 #[i6 aN,i6 aQ,.slice cB aD.length cC] (0,0) _ rfl (bp (bp (bp aA.out 0) 1) 2) Tryz.underlying24 rfl (by kernel_rfl)) rfl ?_
         exact⟨_,by rfl,by exact Kd.R_mono (rf (rf (rf (Kd.R_types HO_179002.out aA.out (by decide))))) (fun _ hk=> trivial),bs3 HB.out aZ.out⟩
        ·rw[if_neg bW]at H
         have b9:=beq_eq_false_iff_ne.mpr bW
         have cA:=bne_iff_ne.mpr bW
         simp only[Option.some.injEq,Prod.mk.injEq]at H
         obtain⟨rfl,rfl,rfl,rfl⟩:=H
         have e8:=aJ.out
         have e9:=aG.out
         obtain⟨dM,dN,dO⟩:=bc3 aC.out
         obtain⟨dP,dQ,dR⟩:=bf3 aC.out
         obtain⟨eO,eP,eo42⟩:=Kd.R_slice HO_179002.out
         subst eo42
         go_wp2_with (first|((with_reducible refine gate_callee (f:=19) rfl ?_);refine goesL_ (some 50) rfl rfl Tryz.func19 (by kernel_rfl) rfl #[.agg #[i6 aN,i6 aQ,.slice eO aD.length eP]] rfl (by(try simp only[l_m,l_c,l_n]);rfl) ?_;(with_reducible refine(ident_Show.calls k1 aN aQ _ _ aD bM bN _ ?side1 ?side2 ?side3 eN.out).mono ?_);(case side1=> exact(Kd.R_reads' HO_179002.out).2.2);(case side2=> exact(Kd.R_reads' HO_179002.out).2.1);(case side3=> exact WH.below HWH_.out (HB.out));rintro e fL ⟨rfl,hb⟩;refine⟨_,rfl,?_⟩;replace HO_179002:=am (Kd.R_below (by exact HO_179002.out) hb);replace aA:=am (blk_below aA.out hb);replace aC:=am (blk_below aC.out hb);replace HB:=am (below_step (HB.out) hb);clear hb;obtain⟨dS,dT,dU⟩:=bc3 aA.out;obtain⟨dV,dW,dX⟩:=bf3 aA.out))
         refine bodyPost_ret (results_ct rfl _ _ aM 24 #[i6 0,i6 0,.slice none 0 0] (0,0) _ rfl (bp (bp (bp aA.out 0) 1) 2) Tryz.underlying24 rfl (by kernel_rfl)) rfl ?_
         exact⟨_,by rfl,by exact Kd.R_nil _ _ _ _ _,bs3 HB.out aZ.out⟩
       ·rw[if_neg bV]at H
        have b7:=beq_eq_false_iff_ne.mpr bV
        have b8:=bne_iff_ne.mpr bV
        simp only[Option.some.injEq,Prod.mk.injEq]at H
        obtain⟨rfl,rfl,rfl,rfl⟩:=H
        have fA:=aJ.out
        have fB:=aG.out
        obtain⟨dY,dZ,d0⟩:=bc3 aC.out
        obtain⟨d1,d2,d3⟩:=bf3 aC.out
        obtain⟨eQ,eR,eo47⟩:=Kd.R_slice HO_179002.out
        subst eo47
        go_wp2_with (first|((with_reducible refine gate_callee (f:=19) rfl ?_);refine goesL_ (some 50) rfl rfl Tryz.func19 (by kernel_rfl) rfl #[.agg #[i6 aN,i6 aQ,.slice eQ aD.length eR]] rfl (by(try simp only[l_m,l_c,l_n]);rfl) ?_;(with_reducible refine(ident_Show.calls k1 aN aQ _ _ aD bM bN _ ?side1 ?side2 ?side3 eN.out).mono ?_);(case side1=> exact(Kd.R_reads' HO_179002.out).2.2);(case side2=> exact(Kd.R_reads' HO_179002.out).2.1);(case side3=> exact WH.below HWH_.out (HB.out));rintro e fM ⟨rfl,hb⟩;refine⟨_,rfl,?_⟩;replace HO_179002:=am (Kd.R_below (by exact HO_179002.out) hb);replace aA:=am (blk_below aA.out hb);replace aC:=am (blk_below aC.out hb);replace HB:=am (below_step (HB.out) hb);clear hb;obtain⟨d4,d5,d6⟩:=bc3 aA.out;obtain⟨d7,d8,d9⟩:=bf3 aA.out))
        refine bodyPost_ret (results_ct rfl _ _ aM 24 #[i6 0,i6 0,.slice none 0 0] (0,0) _ rfl (bp (bp (bp aA.out 0) 1) 2) Tryz.underlying24 rfl (by kernel_rfl)) rfl ?_
        exact⟨_,by rfl,by exact Kd.R_nil _ _ _ _ _,bs3 HB.out aZ.out⟩
   ·rw[if_neg c8]at H
    exact absurd H (by simp)
  ·rw[if_neg c6]at H
   exact absurd H (by simp)


/-! ### pack_TakeText: function 67 -/
def pack_TakeText.f (k:Nat) (a0:ByteArray) (a1:Int):Option (ByteArray×Int×Int):=(pack_TakeNumber.f k a0 a1).bind fun aA=> (if aA.2.2=0 then(if aA.1> (IntKind.u64.wrap (wrap64 ((a0.size:Int) - aA.2.1)))then(some ((⟨#[]⟩:ByteArray),0,10))else(if 0≤aA.2.1 then(if aA.2.1≤(wrap64 (aA.2.1+(wrap64 (aA.1))))then(if(wrap64 (aA.2.1+(wrap64 (aA.1))))≤(a0.size:Int)then(some (a0.extract (aA.2.1:Int).toNat ((wrap64 (aA.2.1+(wrap64 (aA.1)))):Int).toNat,wrap64 (aA.2.1+(wrap64 (aA.1))),0))else(none))else(none))else(none)))else(some ((⟨#[]⟩:ByteArray),0,aA.2.2)))
theorem pack_TakeText.mono:∀ a0 a1 k,LeO (pack_TakeText.f k a0 a1) (pack_TakeText.f (k+1) a0 a1):=by
 intro a0 a1 k
 unfold pack_TakeText.f
 repeat' with_reducible first|apply pack_TakeNumber.mono|apply LeO.refl|apply LeO.none|refine LeO.ite ?_ ?_|refine LeO.bind ?_ (fun _=> ?_)
set_option maxHeartbeats 8000000 in
set_option maxRecDepth 100000 in
theorem pack_TakeText.calls (k:Nat) (a0:ByteArray) (a1:Int) (r1:ByteArray) (r2:Int) (r3:Int) (w:World) (h:pack_TakeText.f k a0 a1=some (r1,r2,r3)) :
  Calls Tryz.prog 67 #[.string a0,i6 a1] w fun e w'=> e=.returned (.tuple #[.string r1,i6 r2,i6 r3])∧Drawn0 w w':=by
 unfold pack_TakeText.f at h
 have H:=h
 clear h
 obtain⟨⟨aC,aB,aD⟩,aH,H⟩:=Option.bind_eq_some_iff.mp H
 try dsimp only at H
 have A3:=am aH
 clear aH
 by_cases c4:aD=0
 ·rw[if_pos c4]at H
  have aE:=beq_iff_eq.mpr c4
  have aF:=bne_eq_false_iff_eq.mpr c4
  clear c4
  by_cases c5:aC> (IntKind.u64.wrap (wrap64 ((a0.size:Int) - aB)))
  ·rw[if_pos c5]at H
   have aG:decide ((IntKind.u64.wrap (wrap64 ((a0.size:Int) - aB)))< aC)=true:=decide_eq_true c5
   clear c5
   simp only[Option.some.injEq,Prod.mk.injEq]at H
   obtain⟨rfl,rfl,rfl⟩:=H
   go_enter Tryz.func67,Tryz.ntmps67
   go_wp2_with (first|((with_reducible refine gate_callee (f:=51) rfl ?_);refine goesL_ (some 14) rfl rfl Tryz.func51 (by kernel_rfl) rfl #[.string a0,i6 a1] rfl (by(try simp only[l_m,l_c,l_n]);rfl) ?_;(with_reducible refine(pack_TakeNumber.calls k a0 a1 aC aB aD _ A3.out).mono ?_);rintro e w' ⟨rfl,⟨nd,rfl⟩⟩;refine⟨_,rfl,?_⟩))
   go_ret3
   exact⟨by rfl,by repeat(first|exact Drawn0.refl _|apply Drawn0.step)⟩
  ·rw[if_neg c5]at H
   have aG:decide ((IntKind.u64.wrap (wrap64 ((a0.size:Int) - aB)))< aC)=false:=decide_eq_false c5
   clear c5
   by_cases c6:0≤aB
   ·rw[if_pos c6]at H
    have aI:=eq_true c6
    have aJ:=decide_eq_true c6
    clear c6
    by_cases c7:aB≤(wrap64 (aB+(wrap64 (aC))))
    ·rw[if_pos c7]at H
     have aK:=eq_true c7
     have aL:=decide_eq_true c7
     by_cases c8:(wrap64 (aB+(wrap64 (aC))))≤(a0.size:Int)
     ·rw[if_pos c8]at H
      have aM:=eq_true c8
      have aN:=decide_eq_true c8
      simp only[Option.some.injEq,Prod.mk.injEq]at H
      obtain⟨rfl,rfl,rfl⟩:=H
      go_enter Tryz.func67,Tryz.ntmps67
      go_wp2_with (first|((with_reducible refine gate_callee (f:=51) rfl ?_);refine goesL_ (some 14) rfl rfl Tryz.func51 (by kernel_rfl) rfl #[.string a0,i6 a1] rfl (by(try simp only[l_m,l_c,l_n]);rfl) ?_;(with_reducible refine(pack_TakeNumber.calls k a0 a1 aC aB aD _ A3.out).mono ?_);rintro e w' ⟨rfl,⟨nd,rfl⟩⟩;refine⟨_,rfl,?_⟩))
      go_ret3
      exact⟨by rfl,by repeat(first|exact Drawn0.refl _|apply Drawn0.step)⟩
     ·rw[if_neg c8]at H
      exact absurd H (by simp)
    ·rw[if_neg c7]at H
     exact absurd H (by simp)
   ·rw[if_neg c6]at H
    exact absurd H (by simp)
 ·rw[if_neg c4]at H
  have aE:=beq_eq_false_iff_ne.mpr c4
  have aF:=bne_iff_ne.mpr c4
  simp only[Option.some.injEq,Prod.mk.injEq]at H
  obtain⟨rfl,rfl,rfl⟩:=H
  go_enter Tryz.func67,Tryz.ntmps67
  go_wp2_with (first|((with_reducible refine gate_callee (f:=51) rfl ?_);refine goesL_ (some 14) rfl rfl Tryz.func51 (by kernel_rfl) rfl #[.string a0,i6 a1] rfl (by(try simp only[l_m,l_c,l_n]);rfl) ?_;(with_reducible refine(pack_TakeNumber.calls k a0 a1 aC aB aD _ A3.out).mono ?_);rintro e w' ⟨rfl,⟨nd,rfl⟩⟩;refine⟨_,rfl,?_⟩))
  go_ret3
  exact⟨by rfl,by repeat(first|exact Drawn0.refl _|apply Drawn0.step)⟩

end Go.Proofs.YtlaeihdldofkcaaGreatDoor.PN

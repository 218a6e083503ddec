/- The machine side of this seat's laws: plain functions, and proofs that the calls do what they say; written by a program of this session over the translation; no conditions beyond those typed. -/
import Derived.Test.YtlaeihdldofkcaaGreatDoorPMx0
import Derived.Test.YtlaeihdldofkcaaGreatDoorPMx6
import Derived.Test.YtlaeihdldofkcaaGreatDoorPMx7
namespace Go.Proofs.YtlaeihdldofkcaaGreatDoor.PN
open Go.RowKit Go.Proofs.YtlaeihdldofkcaaGreatDoorW.PrintWords Go.Proofs.YtlaeihdldofkcaaGreatDoorW.PrintLast Go.Proofs.YtlaeihdldofkcaaGreatDoorW.PrintMore
attribute [local go_sem] max2_int min2_int max_two min_two max_three min_three max_four min_four   -- for this text's walks alone
open List renaming setIfInBounds_toArray → l_a, set_cons_zero → l_z, set_cons_succ → l_s, map_toArray → l_m, map_cons → l_c, map_nil → l_n
set_option linter.unusedVariables false
set_option linter.unusedSimpArgs false

/-! ### ententeref01_Number: function 44 -/
def ententeref01_Number.f:Nat→Int→Option (ByteArray)
 |0,_=> none
 |k+1,a0=> if a0< 128 then(some (strOfNums (([(a0) % 256]:List Int))))else((some (([(IntKind.u64.wrap ((Int.tmod a0 128)+128)) % 256]:List Int):List Int)).bind fun aC=> ((ententeref01_Number.f k (IntKind.u64.wrap (Int.tdiv a0 128))).bind fun aB=> (if(strOfNums aC).size+aB.size≤9223372036854775807 then(some ((strOfNums aC)++aB))else(none))))
def ententeref01_Number.T3:Bool×List (List Nat×List Nat):=(true,[([],[]),([0],[0]),([1],[1]),([2],[2]),([3],[3]),([4],[4]),([],[]),([6],[6]),([7],[7]),([5,8],[5,8]),([9,8,0,1,2,3,4,5,6,7,8,9],[9])])
def ententeref01_Number.B3:List Nat:=[0,1,3,7,15,31,0,64,192,511,1023]
theorem ententeref01_Number.tab3:rtab .any (opsOf Tryz.f44 3)=ententeref01_Number.T3:=by kernel_rfl
theorem ententeref01_Number.bits3:waitsOk ententeref01_Number.T3.2 ententeref01_Number.B3=true:=by kernel_rfl
set_option maxHeartbeats 8000000 in
set_option maxRecDepth 100000 in
theorem ententeref01_Number.calls (k:Nat):∀ (a0:Int) (r:ByteArray) (w:World) (h:ententeref01_Number.f k a0=some r),
  Calls Tryz.prog 44 #[.int .u64 a0] w fun e w'=> e=.returned (.string r)∧Below w.heap.size w w':=by
 induction k using Nat.strongRecOn with
 |_ k ih=>
 intro a0 r w h
 cases k with
 |zero=> exact absurd h (by simp[ententeref01_Number.f])
 |succ k=>
 simp only[ententeref01_Number.f]at h
 have HB:=am (Below.refl w.heap.size w)
 have H:(if a0< 128 then(some (strOfNums (([(a0) % 256]:List Int))))else((some (([(IntKind.u64.wrap ((Int.tmod a0 128)+128)) % 256]:List Int):List Int)).bind fun aC=> ((ententeref01_Number.f k (IntKind.u64.wrap (Int.tdiv a0 128))).bind fun aB=> (if(strOfNums aC).size+aB.size≤9223372036854775807 then(some ((strOfNums aC)++aB))else(none)))))=some r:=h
 clear h
 by_cases c2:a0< 128
 ·rw[if_pos c2]at H
  have aG:=decide_eq_true c2
  clear c2
  obtain⟨aH,hy352⟩:∃ y_:List Int,y_=(([(a0) % 256]:List Int)):=⟨_,rfl⟩
  replace H:(some (strOfNums aH))=some r:=by(rw[hy352];with_reducible exact H)
  have Ny352:=am hy352
  clear hy352
  obtain rfl:=Option.some.inj H
  go_enter Tryz.func44,Tryz.ntmps44
  go_wp2_with (first|((with_reducible refine gate_dst (N:=7) rfl ?_);refine Kd.R_lit (Kd.int .u8) _ 5 ?hg (N:=7) ?hd (xs:=([(a0) % 256]:List Int)) (inner:=[.int .u8 ((a0) % 256)]) (ok:=fun _=> True) (okp:=fun _=> True) ?hr ?hp (fun _ hk=> hk) trivial (Below.refl _ _) (Nat.le_refl _) (by simp) ?_;(case hd=> rfl);(case hg=> rfl);(case hr=> (go_simp;done));(case hp=> exact(Reps.one (show Kd.M (Kd.int .u8) _ _ _ ((a0) % 256) [.int .u8 ((a0) % 256)]from rfl) (Reps.none _ _)));intro v353 w3 ho4 hb hg_ hnew_;clear hg_ hnew_;(rw[← Ny352.out]at ho4);have aF:=am (Kd.R_lower ho4 (below_size (HB.out)));replace HB:=am (below_step (HB.out) hb);clear hb ho4;have hcv5:=own_string (P:=Tryz.prog) Tryz.underlying81 Tryz.underlying5 Tryz.underlying9 (Kd.own_of_R aF.out)))
  go_ret
  exact⟨by rfl,HB.out⟩
 ·rw[if_neg c2]at H
  have aG:=decide_eq_false c2
  clear c2
  obtain⟨aC,hy355⟩:∃ y_:List Int,y_=(([(IntKind.u64.wrap ((Int.tmod a0 128)+128)) % 256]:List Int)):=⟨_,rfl⟩
  replace H:((ententeref01_Number.f k (IntKind.u64.wrap (Int.tdiv a0 128))).bind fun aB=> (if(strOfNums aC).size+aB.size≤9223372036854775807 then(some ((strOfNums aC)++aB))else(none)))=some r:=by(have H2_:=(Option.bind_some _ _).symm.trans H;rw[hy355];with_reducible exact H2_)
  have Ny355:=am hy355
  clear hy355
  obtain⟨aB,aI,H⟩:=Option.bind_eq_some_iff.mp H
  try dsimp only at H
  have A6:=am aI
  clear aI
  by_cases c7:(strOfNums aC).size+aB.size≤9223372036854775807
  ·rw[if_pos c7]at H
   have aK:=eq_true c7
   have aL:=decide_eq_true c7
   try have aM:(9223372036854775807< (strOfNums aC).size+aB.size)=False:=eq_false (Nat.not_lt.2 c7)
   obtain rfl:=Option.some.inj H
   go_enter Tryz.func44,Tryz.ntmps44
   try go_wp2
   have aD:=am (below_drew1 HB.out)
   clear HB
   have HB:=aD
   clear aD
   refine start_ (n:=11) (S:=fun w'=> True) (ds:=[]) (rl [0,11]) (by kernel_rfl) rfl rfl trivial (fun hHeld=> ?_);refine with_tabW ententeref01_Number.tab3 ententeref01_Number.bits3 (fun HT_ HW_=> ?_)
   generalize w.drew=w8 at HB hHeld ⊢
   refine pure_ (i:=0) (N:=some 9) (v:=?_) (a':=?_) (rl [1,10]) rfl rfl (any_of HT_.out (by kernel_rfl)) (fun _ _ _ h=> h) (Or.inl ⟨by rfl,?_⟩) ?_ ?_
   rotate_left
   ·intro w'
    go_simp
    with_reducible rfl
   rotate_left
   ·simp only[Act.put,l_a,l_z,l_s,i64_w,i32_w]
    rfl
   refine pure_ (i:=1) (N:=some 10) (v:=?_) (a':=?_) (rl [2,9]) rfl rfl (any_of HT_.out (by kernel_rfl)) (fun _ _ _ h=> h) (Or.inl ⟨by rfl,?_⟩) ?_ ?_
   rotate_left
   ·intro w'
    go_simp
    with_reducible rfl
   rotate_left
   ·simp only[Act.put,l_a,l_z,l_s,i64_w,i32_w]
    rfl
   refine pure_ (i:=2) (N:=some 11) (v:=?_) (a':=?_) (rl [3,8]) rfl rfl (any_of HT_.out (by kernel_rfl)) (fun _ _ _ h=> h) (Or.inl ⟨by rfl,?_⟩) ?_ ?_
   rotate_left
   ·intro w'
    go_simp
    with_reducible rfl
   rotate_left
   ·simp only[Act.put,l_a,l_z,l_s,i64_w,i32_w]
    rfl
   refine pure_ (i:=3) (N:=some 12) (v:=?_) (a':=?_) (rl [4,7]) rfl rfl (any_of HT_.out (by kernel_rfl)) (fun _ _ _ h=> h) (Or.inl ⟨by rfl,?_⟩) ?_ ?_
   rotate_left
   ·intro w'
    go_simp
    with_reducible rfl
   rotate_left
   ·simp only[Act.put,l_a,l_z,l_s,i64_w,i32_w]
    rfl
   refine pure_ (i:=6) (N:=some 15) (v:=?_) (a':=?_) (rl [4,2,1,4]) rfl rfl (any_of HT_.out (by kernel_rfl)) (fun _ _ _ h=> h) (Or.inl ⟨by rfl,?_⟩) ?_ ?_
   rotate_left
   ·intro w'
    go_simp
    with_reducible rfl
   rotate_left
   ·simp only[Act.put,l_a,l_z,l_s,i64_w,i32_w]
    rfl
   refine pure_ (i:=7) (N:=some 16) (v:=?_) (a':=?_) (rl [4,2,2,3]) rfl rfl (any_of HT_.out (by kernel_rfl)) (fun _ _ _ h=> h) (Or.inl ⟨by rfl,?_⟩) ?_ ?_
   rotate_left
   ·intro w'
    go_simp
    with_reducible rfl
   rotate_left
   ·simp only[Act.put,l_a,l_z,l_s,i64_w,i32_w]
    rfl
   refine join_ (σ:=Value) 2 (rl [9,2]) (fun s_=> [(13,s_),(14,.string (strOfNums aC)),(17,.string aB)]) (fun s_ w'=> (Kd.R (Kd.int .u8) 5 w' w.heap.size (fun _=> True) s_ aC)∧(Below w.heap.size w w')) ?_ ?_
   rotate_left
   ·intro hCont
    refine two_ (i:=4) (j:=8) (Ni:=some 13) (Nj:=some 17) (rl [5,1,2,3]) (rl [4,2,3,2]) rfl rfl rfl rfl (two_of HT_.out (by kernel_rfl)) (by decide) (by decide) (fun K hK=> ?_) (fun K hK=> ?_)
    ·skip
     refine Kd.R_lit_step (Kd.int .u8) _ 5 ?hg (N:=13) ?hd (xs:=([(IntKind.u64.wrap ((Int.tmod a0 128)+128)) % 256]:List Int)) (inner:=[.int .u8 ((IntKind.u64.wrap ((Int.tmod a0 128)+128)) % 256)]) (ok:=fun _=> True) (okp:=fun _=> True) ?hr ?hp (fun _ hk=> hk) trivial (Below.refl _ _) (Nat.le_refl _) (by simp) ?_;(case hd=> rfl);(case hg=> rfl);(case hr=> (go_simp;rfl));(case hp=> exact(Reps.one (show Kd.M (Kd.int .u8) _ _ _ ((IntKind.u64.wrap ((Int.tmod a0 128)+128)) % 256) [.int .u8 ((IntKind.u64.wrap ((Int.tmod a0 128)+128)) % 256)]from rfl) (Reps.none _ _)))
     intro v356 w9 ho10 hb hg_ hnew_
     clear hg_ hnew_
     (rw[← Ny355.out]at ho10)
     have aD:=am (Kd.R_lower ho10 (below_size (HB.out)))
     have aE:=am (below_step (HB.out) hb)
     clear HB
     have aA:=aD
     have HB:=aE
     clear aD aE
     clear hb ho10
     refine hK.out _ _ trivial (fun hHeld=> ?_)
     clear hK K
     refine norm_ (a':=?_) ?_ ?_
     rotate_left
     ·show Act.put _ (some 13) _=_
      simp only[Act.put,l_a,l_z,l_s,i64_w,i32_w]
      rfl
     refine two_ (i:=5) (j:=8) (Ni:=some 14) (Nj:=some 17) (rl [8,3]) (rl [5,1,3,2]) rfl rfl rfl rfl (two_of HT_.out (by kernel_rfl)) (by decide) (by decide) (fun K hK=> ?_) (fun K hK=> ?_)
     ·skip
      have hcv11:=own_string (P:=Tryz.prog) Tryz.underlying81 Tryz.underlying5 Tryz.underlying9 (Kd.own_of_R aA.out)
      refine value_ (w1:=?_) (v:=?_) (by rfl) rfl ?_ ?_
      rotate_left 2
      ·go_simp
       constructor
       ·rfl
       ·rfl
      clear hcv11
      refine hK.out _ _ trivial (fun hHeld=> ?_)
      clear hK K
      refine norm_ (a':=?_) ?_ ?_
      rotate_left
      ·show Act.put _ (some 14) _=_
       simp only[Act.put,l_a,l_z,l_s,i64_w,i32_w]
       rfl
      refine one_ (i:=8) (N:=some 17) (rl [9,2]) rfl rfl (one_of HT_.out (by kernel_rfl)) (by decide) (fun K hK=> ?_)
      refine goes_ Tryz.func44 (by kernel_rfl) rfl #[.int .u64 (IntKind.u64.wrap (Int.tdiv a0 128))] (by rfl) rfl rfl (by(try simp only[l_m,l_c,l_n]);rfl) ?_
      with_reducible refine(ih k (by omega) (IntKind.u64.wrap (Int.tdiv a0 128)) aB _ A6.out).mono ?_
      rintro e aN ⟨rfl,hb⟩
      refine⟨_,rfl,?_⟩
      have aD:=am (Kd.R_below (by exact aA.out) hb)
      have aE:=am (below_step (HB.out) hb)
      clear aA HB
      have aA:=aD
      have HB:=aE
      clear aD aE
      clear hb
      refine hK.out _ _ trivial (fun hHeld=> ?_)
      clear hK K
      refine norm_ (a':=?_) ?_ ?_
      rotate_left
      ·show Act.put _ (some 17) _=_
       simp only[Act.put,l_a,l_z,l_s,i64_w,i32_w]
       rfl
      exact norm_ (by simp only[putAll,Act.put,l_a,l_z,l_s]) (hCont (v356) _ ⟨(by exact aA.out),(HB.out)⟩)
     ·skip
      refine goes_ Tryz.func44 (by kernel_rfl) rfl #[.int .u64 (IntKind.u64.wrap (Int.tdiv a0 128))] (by rfl) rfl rfl (by(try simp only[l_m,l_c,l_n]);rfl) ?_
      with_reducible refine(ih k (by omega) (IntKind.u64.wrap (Int.tdiv a0 128)) aB _ A6.out).mono ?_
      rintro e aO ⟨rfl,hb⟩
      refine⟨_,rfl,?_⟩
      have aD:=am (Kd.R_below (by exact aA.out) hb)
      have aE:=am (below_step (HB.out) hb)
      clear aA HB
      have aA:=aD
      have HB:=aE
      clear aD aE
      clear hb
      refine hK.out _ _ trivial (fun hHeld=> ?_)
      clear hK K
      refine norm_ (a':=?_) ?_ ?_
      rotate_left
      ·show Act.put _ (some 17) _=_
       simp only[Act.put,l_a,l_z,l_s,i64_w,i32_w]
       rfl
      refine one_ (i:=5) (N:=some 14) (rl [9,2]) rfl rfl (one_of HT_.out (by kernel_rfl)) (by decide) (fun K hK=> ?_)
      have hcv12:=own_string (P:=Tryz.prog) Tryz.underlying81 Tryz.underlying5 Tryz.underlying9 (Kd.own_of_R aA.out)
      refine value_ (w1:=?_) (v:=?_) (by rfl) rfl ?_ ?_
      rotate_left 2
      ·go_simp
       constructor
       ·rfl
       ·rfl
      clear hcv12
      refine hK.out _ _ trivial (fun hHeld=> ?_)
      clear hK K
      refine norm_ (a':=?_) ?_ ?_
      rotate_left
      ·show Act.put _ (some 14) _=_
       simp only[Act.put,l_a,l_z,l_s,i64_w,i32_w]
       rfl
      exact norm_ (by simp only[putAll,Act.put,l_a,l_z,l_s]) (hCont (v356) _ ⟨(by exact aA.out),(HB.out)⟩)
    ·skip
     refine goes_ Tryz.func44 (by kernel_rfl) rfl #[.int .u64 (IntKind.u64.wrap (Int.tdiv a0 128))] (by rfl) rfl rfl (by(try simp only[l_m,l_c,l_n]);rfl) ?_
     with_reducible refine(ih k (by omega) (IntKind.u64.wrap (Int.tdiv a0 128)) aB _ A6.out).mono ?_
     rintro e w9 ⟨rfl,hb⟩
     refine⟨_,rfl,?_⟩
     have aD:=am (below_step (HB.out) hb)
     clear HB
     have HB:=aD
     clear aD
     clear hb
     refine hK.out _ _ trivial (fun hHeld=> ?_)
     clear hK K
     refine norm_ (a':=?_) ?_ ?_
     rotate_left
     ·show Act.put _ (some 17) _=_
      simp only[Act.put,l_a,l_z,l_s,i64_w,i32_w]
      rfl
     refine one_ (i:=4) (N:=some 13) (rl [5,1,3,2]) rfl rfl (one_of HT_.out (by kernel_rfl)) (by decide) (fun K hK=> ?_)
     refine Kd.R_lit_step (Kd.int .u8) _ 5 ?hg (N:=13) ?hd (xs:=([(IntKind.u64.wrap ((Int.tmod a0 128)+128)) % 256]:List Int)) (inner:=[.int .u8 ((IntKind.u64.wrap ((Int.tmod a0 128)+128)) % 256)]) (ok:=fun _=> True) (okp:=fun _=> True) ?hr ?hp (fun _ hk=> hk) trivial (Below.refl _ _) (Nat.le_refl _) (by simp) ?_;(case hd=> rfl);(case hg=> rfl);(case hr=> (go_simp;rfl));(case hp=> exact(Reps.one (show Kd.M (Kd.int .u8) _ _ _ ((IntKind.u64.wrap ((Int.tmod a0 128)+128)) % 256) [.int .u8 ((IntKind.u64.wrap ((Int.tmod a0 128)+128)) % 256)]from rfl) (Reps.none _ _)))
     intro v356 aP ho11 hb hg_ hnew_
     clear hg_ hnew_
     (rw[← Ny355.out]at ho11)
     have aD:=am (Kd.R_lower ho11 (below_size (HB.out)))
     have aE:=am (below_step (HB.out) hb)
     clear HB
     have aA:=aD
     have HB:=aE
     clear aD aE
     clear hb ho11
     refine hK.out _ _ trivial (fun hHeld=> ?_)
     clear hK K
     refine norm_ (a':=?_) ?_ ?_
     rotate_left
     ·show Act.put _ (some 13) _=_
      simp only[Act.put,l_a,l_z,l_s,i64_w,i32_w]
      rfl
     refine one_ (i:=5) (N:=some 14) (rl [9,2]) rfl rfl (one_of HT_.out (by kernel_rfl)) (by decide) (fun K hK=> ?_)
     have hcv12:=own_string (P:=Tryz.prog) Tryz.underlying81 Tryz.underlying5 Tryz.underlying9 (Kd.own_of_R aA.out)
     refine value_ (w1:=?_) (v:=?_) (by rfl) rfl ?_ ?_
     rotate_left 2
     ·go_simp
      constructor
      ·rfl
      ·rfl
     clear hcv12
     refine hK.out _ _ trivial (fun hHeld=> ?_)
     clear hK K
     refine norm_ (a':=?_) ?_ ?_
     rotate_left
     ·show Act.put _ (some 14) _=_
      simp only[Act.put,l_a,l_z,l_s,i64_w,i32_w]
      rfl
     exact norm_ (by simp only[putAll,Act.put,l_a,l_z,l_s]) (hCont (v356) _ ⟨(by exact aA.out),(HB.out)⟩)
   rintro v356 aJ ⟨h0_,h1_⟩
   have aD:Aside0 (Kd.R (Kd.int .u8) 5 aJ w.heap.size (fun _=> True) v356 aC):=⟨h0_⟩
   have aE:Aside0 (Below w.heap.size w aJ):=⟨h1_⟩
   clear HB
   clear h0_ h1_
   have aA:=aD
   have HB:=aE
   clear aD aE
   have hHeld:=trivial
   refine norm_ (a':=?_) ?_ ?_
   rotate_left
   ·simp only[putAll,Act.put,l_a,l_z,l_s]
    rfl
   refine pure_ (i:=9) (N:=some 18) (v:=?_) (a':=?_) (rl [10,1]) rfl rfl (any_of HT_.out (by kernel_rfl)) (fun _ _ _ h=> h) (Or.inl ⟨by rfl,?_⟩) ?_ ?_
   rotate_left
   ·intro w'
    go_simp
    with_reducible rfl
   rotate_left
   ·simp only[Act.put,l_a,l_z,l_s,i64_w,i32_w]
    rfl
   refine pure_ (i:=10) (N:=some 2) (v:=?_) (a':=?_) (rl [11]) rfl rfl (any_of HT_.out (by kernel_rfl)) (fun _ _ _ h=> h) (Or.inl ⟨by rfl,?_⟩) ?_ ?_
   rotate_left
   ·intro w'
    go_simp
    with_reducible rfl
   rotate_left
   ·simp only[Act.put,l_a,l_z,l_s,i64_w,i32_w]
    rfl
   refine done_ (done_of HT_.out (by kernel_rfl)) ?_
   try go_wp2
   go_ret
   exact⟨by rfl,HB.out⟩
  ·rw[if_neg c7]at H
   exact absurd H (by simp)

/-! ### ententeref13_number: function 22 -/
def ententeref13_number.f (k:Nat) (a0:Int):Option (ByteArray):=(ententeref01_Number.f k (IntKind.u64.wrap (a0))).bind fun aA=> (some aA)
set_option maxHeartbeats 8000000 in
set_option maxRecDepth 100000 in
theorem ententeref13_number.calls (k:Nat) (a0:Int) (r:ByteArray) (w:World) (h:ententeref13_number.f k a0=some r) :
  Calls Tryz.prog 22 #[i6 a0] w fun e w'=> e=.returned (.string r)∧Below w.heap.size w w':=by
 have HB:=am (Below.refl w.heap.size w)
 unfold ententeref13_number.f at h
 have H:=h
 clear h
 obtain⟨aA,aB,H⟩:=Option.bind_eq_some_iff.mp H
 try dsimp only at H
 have A2:=am aB
 clear aB
 obtain rfl:=Option.some.inj H
 go_enter Tryz.func22,Tryz.ntmps22
 go_wp2_with (first|((with_reducible refine gate_callee (f:=44) rfl ?_);refine goesL_ (some 5) rfl rfl Tryz.func44 (by kernel_rfl) rfl #[.int .u64 (IntKind.u64.wrap (a0))] rfl (by(try simp only[l_m,l_c,l_n]);rfl) ?_;(with_reducible refine(ententeref01_Number.calls k (IntKind.u64.wrap (a0)) aA _ A2.out).mono ?_);rintro e w3 ⟨rfl,hb⟩;refine⟨_,rfl,?_⟩;replace HB:=am (below_step (HB.out) hb);clear hb))
 go_ret
 exact⟨by rfl,HB.out⟩

/-! ### ententeref03_Digits: function 46 -/
def ententeref03_Digits.f:Nat→Int→Option (ByteArray)
 |0,_=> none
 |k+1,a0=> if a0< 10 then(if 0≤a0 then(if a0≤(wrap64 (a0+1))then(if(wrap64 (a0+1))≤10 then(some ((⟨#[48,49,50,51,52,53,54,55,56,57]⟩:ByteArray).extract (a0:Int).toNat ((wrap64 (a0+1)):Int).toNat))else(none))else(none))else(none))else((ententeref03_Digits.f k (wrap64 (Int.tdiv a0 10))).bind fun aA=> ((ententeref03_Digits.f k (Int.tmod a0 10)).bind fun aB=> (if aA.size+aB.size≤9223372036854775807 then(some (aA++aB))else(none))))
set_option maxHeartbeats 8000000 in
set_option maxRecDepth 100000 in
theorem ententeref03_Digits.calls (k:Nat):∀ (a0:Int) (r:ByteArray) (w:World) (h:ententeref03_Digits.f k a0=some r),
  Calls Tryz.prog 46 #[i6 a0] w fun e w'=> e=.returned (.string r)∧Drawn0 w w':=by
 induction k using Nat.strongRecOn with
 |_ k ih=>
 intro a0 r w h
 cases k with
 |zero=> exact absurd h (by simp[ententeref03_Digits.f])
 |succ k=>
 simp only[ententeref03_Digits.f]at h
 have H:(if a0< 10 then(if 0≤a0 then(if a0≤(wrap64 (a0+1))then(if(wrap64 (a0+1))≤10 then(some ((⟨#[48,49,50,51,52,53,54,55,56,57]⟩:ByteArray).extract (a0:Int).toNat ((wrap64 (a0+1)):Int).toNat))else(none))else(none))else(none))else((ententeref03_Digits.f k (wrap64 (Int.tdiv a0 10))).bind fun aA=> ((ententeref03_Digits.f k (Int.tmod a0 10)).bind fun aB=> (if aA.size+aB.size≤9223372036854775807 then(some (aA++aB))else(none)))))=some r:=h
 clear h
 by_cases c2:a0< 10
 ·rw[if_pos c2]at H
  have aC:=decide_eq_true c2
  clear c2
  by_cases c3:0≤a0
  ·rw[if_pos c3]at H
   have aF:=eq_true c3
   have aG:=decide_eq_true c3
   clear c3
   by_cases c4:a0≤(wrap64 (a0+1))
   ·rw[if_pos c4]at H
    have aH:=eq_true c4
    have aI:=decide_eq_true c4
    by_cases c5:(wrap64 (a0+1))≤10
    ·rw[if_pos c5]at H
     have aJ:=eq_true c5
     have aK:=decide_eq_true c5
     obtain rfl:=Option.some.inj H
     go_enter Tryz.func46,Tryz.ntmps46
     go_wp2
     go_ret
     exact⟨by rfl,Drawn0.refl _⟩
    ·rw[if_neg c5]at H
     exact absurd H (by simp)
   ·rw[if_neg c4]at H
    exact absurd H (by simp)
  ·rw[if_neg c3]at H
   exact absurd H (by simp)
 ·rw[if_neg c2]at H
  have aC:=decide_eq_false c2
  clear c2
  obtain⟨aA,aD,H⟩:=Option.bind_eq_some_iff.mp H
  try dsimp only at H
  have A6:=am aD
  clear aD
  obtain⟨aB,aE,H⟩:=Option.bind_eq_some_iff.mp H
  try dsimp only at H
  have A7:=am aE
  clear aE
  by_cases c8:aA.size+aB.size≤9223372036854775807
  ·rw[if_pos c8]at H
   have aL:=eq_true c8
   have aM:=decide_eq_true c8
   try have aN:(9223372036854775807< aA.size+aB.size)=False:=eq_false (Nat.not_lt.2 c8)
   obtain rfl:=Option.some.inj H
   go_enter Tryz.func46,Tryz.ntmps46
   go_wp2_with (first|((with_reducible refine gate_callee (f:=46) rfl ?_);refine goesL_ (some 11) rfl rfl Tryz.func46 (by kernel_rfl) rfl #[i6 (wrap64 (Int.tdiv a0 10))] rfl (by(try simp only[l_m,l_c,l_n]);rfl) ?_;(with_reducible refine(ih k (by omega) (wrap64 (Int.tdiv a0 10)) aA _ A6.out).mono ?_);rintro e w' ⟨rfl,⟨nd,rfl⟩⟩;refine⟨_,rfl,?_⟩)|((with_reducible refine gate_callee (f:=46) rfl ?_);refine goesL_ (some 14) rfl rfl Tryz.func46 (by kernel_rfl) rfl #[i6 (Int.tmod a0 10)] rfl (by(try simp only[l_m,l_c,l_n]);rfl) ?_;(with_reducible refine(ih k (by omega) (Int.tmod a0 10) aB _ A7.out).mono ?_);rintro e w' ⟨rfl,⟨nd,rfl⟩⟩;refine⟨_,rfl,?_⟩))
   go_ret
   exact⟨by rfl,by repeat(first|exact Drawn0.refl _|apply Drawn0.step)⟩
  ·rw[if_neg c8]at H
   exact absurd H (by simp)

/-! ### ententeref03_Show: function 23 -/
def ententeref03_Show.l0:Nat→ByteArray→Int→Int→Int→List (S46)→Option (ByteArray×Int)
 |0,_,_,_,_,_=> none
 |k+1,x4,x5,aS,aT,aH=> if x5< (aH.length:Int)then(if x4.size+1≤9223372036854775807 then(if 0≤x5 then((ententeref03_Digits.f k ((rd_T46 aH x5).f0)).bind fun aD=> (if x4.size+1+aD.size≤9223372036854775807 then(if x4.size+1+aD.size+1≤9223372036854775807 then((ententeref03_Digits.f k ((rd_T46 aH x5).f1)).bind fun aN=> (if x4.size+1+aD.size+1+aN.size≤9223372036854775807 then(ententeref03_Show.l0 k ((((x4++(⟨#[47]⟩:ByteArray))++aD)++(⟨#[64]⟩:ByteArray))++aN) (wrap64 (x5+1)) aS aT aH)else(none)))else(none))else(none)))else(none))else(none))else(some (x4,0))
def ententeref03_Show.f (k:Nat) (aE:Int) (aF:Int) (aB:List (S46)):Option (ByteArray×Int):=(ententeref03_Check.f k aE aF aB).bind fun aQ=> (if aQ=0 then((ententeref03_Digits.f k aE).bind fun aI=> (if aI.size+1≤9223372036854775807 then((ententeref03_Digits.f k aF).bind fun aO=> (if aI.size+1+aO.size≤9223372036854775807 then(ententeref03_Show.l0 k ((aI++(⟨#[46]⟩:ByteArray))++aO) 0 aE aF aB)else(none)))else(none)))else(some ((⟨#[]⟩:ByteArray),30)))
set_option maxHeartbeats 8000000 in
set_option maxRecDepth 100000 in
theorem ententeref03_Show.calls (k:Nat) (aE:Int) (aF:Int) (aR:Option Addr) (c0_2:Nat) (aB:List (S46)) (r1:ByteArray) (r2:Int) (w:World) (a3:Kd.C k46 w aR aB.length aB) (a4:aB.length≤c0_2) (h:ententeref03_Show.f k aE aF aB=some (r1,r2)) :
  Calls Tryz.prog 23 #[.agg #[i6 aE,i6 aF,.slice aR aB.length c0_2]] w fun e w'=> e=.returned (.tuple #[.string r1,i6 r2])∧Below w.heap.size w w':=by
 have hu24:=Tryz.underlying24
 have aP:=am a3
 have a5:=am a4
 clear a3 a4
 have HB:=am (Below.refl w.heap.size w)
 unfold ententeref03_Show.f at h
 have H:=h
 clear h
 obtain⟨aQ,cK,H⟩:=Option.bind_eq_some_iff.mp H
 try dsimp only at H
 have A2:=am cK
 clear cK
 by_cases c3:aQ=0
 ·rw[if_pos c3]at H
  have bI:=beq_iff_eq.mpr c3
  have bJ:=bne_eq_false_iff_eq.mpr c3
  clear c3
  obtain⟨aI,cL,H⟩:=Option.bind_eq_some_iff.mp H
  try dsimp only at H
  have A4:=am cL
  clear cL
  by_cases c5:aI.size+1≤9223372036854775807
  ·rw[if_pos c5]at H
   have cE:=eq_true c5
   have cF:=decide_eq_true c5
   try have cG:(9223372036854775807< aI.size+1)=False:=eq_false (Nat.not_lt.2 c5)
   obtain⟨aO,cM,H⟩:=Option.bind_eq_some_iff.mp H
   try dsimp only at H
   have A6:=am cM
   clear cM
   by_cases c7:aI.size+1+aO.size≤9223372036854775807
   ·rw[if_pos c7]at H
    have cH:=eq_true c7
    have cI:=decide_eq_true c7
    try have cJ:(9223372036854775807< aI.size+1+aO.size)=False:=eq_false (Nat.not_lt.2 c7)
    have H':=am H
    clear H
    go_enter Tryz.func23,Tryz.ntmps23
    go_wp2_with (first|((with_reducible refine gate_dst (N:=1) rfl ?_);refine box_event ?hg (N:=1) ?hd (cs:=#[i6 aE,i6 aF,.slice aR aB.length c0_2]) (t:=24) ?hr ?_;(case hd=> rfl);(case hg=> rfl);(case hr=> (go_simp;done));intro a6 hg w8 hbox hb;have aA:=am (hbox);have bK:=am (gsz hg HB.out);have bL:=am (gsz hg HB.out);replace HB:=am (below_step (HB.out) hb);clear hb hbox hg;obtain⟨a7,a8,a9⟩:=bc3 aA.out;obtain⟨bA,bB,bC⟩:=bf3 aA.out)|(go_at_call 45;(with_reducible refine(ententeref03_Check.calls k aE aF _ _ aB aQ _ ?side1 ?side2 A2.out).mono ?_);(case side1=> exact(Kd.C_below aP.out HB.out));(case side2=> exact a5.out);rintro e dB ⟨rfl,hb⟩;replace aA:=am (blk_below aA.out hb);replace HB:=am (below_step (HB.out) hb);clear hb;obtain⟨aU,aV,aW⟩:=bc3 aA.out;obtain⟨aX,aY,aZ⟩:=bf3 aA.out))
    repeat(go_quiet (first|(go_at_call 46;(with_reducible refine(ententeref03_Digits.calls k aE aI _ A4.out).mono ?_);rintro e w' ⟨rfl,⟨nd,rfl⟩⟩;(try exact⟨rfl,_,World.drewN_drewN _ _ _⟩))|(go_at_call 46;(with_reducible refine(ententeref03_Digits.calls k aF aO _ A6.out).mono ?_);rintro e w' ⟨rfl,⟨nd,rfl⟩⟩;(try exact⟨rfl,_,World.drewN_drewN _ _ _⟩)));try go_wp2_with (fail))
    go_loopg [4,5] k (fun kq v4 v5 w'=> ∃ (aG:ByteArray) (aC:Int),v4=.string aG∧v5=i6 aC∧Aside0 (ententeref03_Show.l0 kq aG aC aE aF aB=some (r1,r2))∧Aside0 (kq≤k)∧Aside0 (w'.heap[a6]?=some (.cells #[i6 aE,i6 aF,(.slice aR aB.length c0_2)] 24 (0,0)))∧Aside0 (Below w.heap.size w w'))
    case atStart=> exact⟨((aI++(⟨#[46]⟩:ByteArray))++aO),(0),(by rfl),(by rfl),H',⟨Nat.le_refl _⟩,⟨by refine blk_drewN ?_ _;exact aA.out⟩,⟨pw_below_drewN HB.out _⟩⟩
    case round=>
     clear H'
     clear bI bJ c5 cE cF cG c7 cH cI cJ aU aV aW a7 a8 a9 aX aY aZ bA bB bC
     obtain⟨aG,aC,rfl,rfl,HA,cN,aA,HB⟩:=hrel
     cases gk with
     |zero=> exact absurd HA.out (by simp[ententeref03_Show.l0])
     |succ k1=>
      have H:=HA.out
      clear HA
      simp only[ententeref03_Show.l0]at H
      by_cases bH:aC< (aB.length:Int)
      ·rw[if_pos bH]at H
       have bM:=decide_eq_true bH
       clear bH
       by_cases bN:aG.size+1≤9223372036854775807
       ·rw[if_pos bN]at H
        have cO:=eq_true bN
        have cP:=decide_eq_true bN
        try have cQ:(9223372036854775807< aG.size+1)=False:=eq_false (Nat.not_lt.2 bN)
        by_cases bV:0≤aC
        ·rw[if_pos bV]at H
         have cR:=decide_eq_true bV
         clear bV
         obtain⟨aD,bO,H⟩:=Option.bind_eq_some_iff.mp H
         try dsimp only at H
         have c1:=am bO
         clear bO
         by_cases bP:aG.size+1+aD.size≤9223372036854775807
         ·rw[if_pos bP]at H
          have cS:=eq_true bP
          have cT:=decide_eq_true bP
          try have cU:(9223372036854775807< aG.size+1+aD.size)=False:=eq_false (Nat.not_lt.2 bP)
          by_cases bQ:aG.size+1+aD.size+1≤9223372036854775807
          ·rw[if_pos bQ]at H
           have cV:=eq_true bQ
           have cW:=decide_eq_true bQ
           try have cX:(9223372036854775807< aG.size+1+aD.size+1)=False:=eq_false (Nat.not_lt.2 bQ)
           obtain⟨aN,bR,H⟩:=Option.bind_eq_some_iff.mp H
           try dsimp only at H
           have dA:=am bR
           clear bR
           by_cases bS:aG.size+1+aD.size+1+aN.size≤9223372036854775807
           ·rw[if_pos bS]at H
            have cY:=eq_true bS
            have cZ:=decide_eq_true bS
            try have c0:(9223372036854775807< aG.size+1+aD.size+1+aN.size)=False:=eq_false (Nat.not_lt.2 bS)
            have H':=am H
            clear H
            obtain⟨bW,bX,bY⟩:=bc3 aA.out
            obtain⟨bZ,b0,b1⟩:=bf3 aA.out
            have bD:0≤(aC:Int):=of_decide_eq_true (by(with_reducible assumption))
            have bE:aC< (aB.length:Int):=of_decide_eq_true (by(with_reducible assumption))
            obtain⟨bT,e366,aJ,aK⟩:=at_T46 aP.out aC bD bE
            cases e366
            try replace aJ:=(HB.out.cell (World.block_lt_of_cell? w _ aJ)).trans aJ
            try replace aK:=(HB.out.cell (World.block_lt_of_cell? w _ aK)).trans aK
            replace bD:=eq_true bD
            replace bE:=eq_true bE
            go_wp2_with (fail)
            repeat(go_quiet (first|(go_at_call 46;(with_reducible refine(ententeref03_Digits.calls k1 ((rd_T46 aB aC).f0) aD _ c1.out).mono ?_);rintro e w' ⟨rfl,⟨nd,rfl⟩⟩;(try exact⟨rfl,_,World.drewN_drewN _ _ _⟩);have bF:0≤(aC:Int):=of_decide_eq_true (by(with_reducible assumption));have bG:aC< (aB.length:Int):=of_decide_eq_true (by(with_reducible assumption));obtain⟨bU,e368,aL,aM⟩:=at_T46 aP.out aC bF bG;obtain rfl:bT=bU:=(by injection e368);replace aL:=(HB.out.cell (World.block_lt_of_cell? w _ aL)).trans aL;replace aM:=(HB.out.cell (World.block_lt_of_cell? w _ aM)).trans aM;replace bF:=eq_true bF;replace bG:=eq_true bG)|(go_at_call 46;(with_reducible refine(ententeref03_Digits.calls k1 ((rd_T46 aB aC).f1) aN _ dA.out).mono ?_);rintro e w' ⟨rfl,⟨nd,rfl⟩⟩;(try exact⟨rfl,_,World.drewN_drewN _ _ _⟩)));try go_wp2_with (fail))
            go_roundg k1
            case measure=> have:=cN.out;omega
            case rel=> exact⟨((((aG++(⟨#[47]⟩:ByteArray))++aD)++(⟨#[64]⟩:ByteArray))++aN),(wrap64 (aC+1)),(by rfl),(by rfl),H',⟨by have:=cN.out;omega⟩,⟨by refine blk_drewN ?_ _;exact aA.out⟩,⟨pw_below_drewN HB.out _⟩⟩
           ·rw[if_neg bS]at H
            exact absurd H (by simp)
          ·rw[if_neg bQ]at H
           exact absurd H (by simp)
         ·rw[if_neg bP]at H
          exact absurd H (by simp)
        ·rw[if_neg bV]at H
         exact absurd H (by simp)
       ·rw[if_neg bN]at H
        exact absurd H (by simp)
      ·rw[if_neg bH]at H
       have bM:=decide_eq_false bH
       clear bH
       simp only[Option.some.injEq,Prod.mk.injEq]at H
       obtain⟨rfl,rfl⟩:=H
       obtain⟨b2,b3,b4⟩:=bc3 aA.out
       obtain⟨b5,b6,b7⟩:=bf3 aA.out
       go_wp2
       repeat(go_quiet (fail);try go_wp2)
       go_ret2
       exact⟨by rfl,HB.out⟩
   ·rw[if_neg c7]at H
    exact absurd H (by simp)
  ·rw[if_neg c5]at H
   exact absurd H (by simp)
 ·rw[if_neg c3]at H
  have bI:=beq_eq_false_iff_ne.mpr c3
  have bJ:=bne_iff_ne.mpr c3
  simp only[Option.some.injEq,Prod.mk.injEq]at H
  obtain⟨rfl,rfl⟩:=H
  go_enter Tryz.func23,Tryz.ntmps23
  go_wp2_with (first|((with_reducible refine gate_dst (N:=1) rfl ?_);refine box_event ?hg (N:=1) ?hd (cs:=#[i6 aE,i6 aF,.slice aR aB.length c0_2]) (t:=24) ?hr ?_;(case hd=> rfl);(case hg=> rfl);(case hr=> (go_simp;done));intro a6 hg dC hbox hb;have aA:=am (hbox);have bK:=am (gsz hg HB.out);have bL:=am (gsz hg HB.out);replace HB:=am (below_step (HB.out) hb);clear hb hbox hg;obtain⟨b8,b9,cA⟩:=bc3 aA.out;obtain⟨cB,cC,cD⟩:=bf3 aA.out)|(go_at_call 45;(with_reducible refine(ententeref03_Check.calls k aE aF _ _ aB aQ _ ?side1 ?side2 A2.out).mono ?_);(case side1=> exact(Kd.C_below aP.out HB.out));(case side2=> exact a5.out);rintro e dD ⟨rfl,hb⟩;replace aA:=am (blk_below aA.out hb);replace HB:=am (below_step (HB.out) hb);clear hb))
  repeat(go_quiet (fail);try go_wp2_with (fail))
  go_ret2
  exact⟨by rfl,HB.out⟩

/-! ### ententeref01_Text: function 24 -/
def ententeref01_Text.f (k:Nat) (a0:ByteArray):Option (ByteArray):=(ententeref01_Number.f k (IntKind.u64.wrap ((a0.size:Int)))).bind fun aA=> (if aA.size+a0.size≤9223372036854775807 then(some (aA++a0))else(none))
set_option maxHeartbeats 8000000 in
set_option maxRecDepth 100000 in
theorem ententeref01_Text.calls (k:Nat) (a0:ByteArray) (r:ByteArray) (w:World) (h:ententeref01_Text.f k a0=some r) :
  Calls Tryz.prog 24 #[.string a0] w fun e w'=> e=.returned (.string r)∧Below w.heap.size w w':=by
 have HB:=am (Below.refl w.heap.size w)
 unfold ententeref01_Text.f at h
 have H:=h
 clear h
 obtain⟨aA,aB,H⟩:=Option.bind_eq_some_iff.mp H
 try dsimp only at H
 have A2:=am aB
 clear aB
 by_cases c3:aA.size+a0.size≤9223372036854775807
 ·rw[if_pos c3]at H
  have aC:=eq_true c3
  have aD:=decide_eq_true c3
  try have aE:(9223372036854775807< aA.size+a0.size)=False:=eq_false (Nat.not_lt.2 c3)
  clear c3
  obtain rfl:=Option.some.inj H
  go_enter Tryz.func24,Tryz.ntmps24
  go_wp2_with (first|((with_reducible refine gate_callee (f:=44) rfl ?_);refine goesL_ (some 6) rfl rfl Tryz.func44 (by kernel_rfl) rfl #[.int .u64 (IntKind.u64.wrap ((a0.size:Int)))] rfl (by(try simp only[l_m,l_c,l_n]);rfl) ?_;(with_reducible refine(ententeref01_Number.calls k (IntKind.u64.wrap ((a0.size:Int))) aA _ A2.out).mono ?_);rintro e w4 ⟨rfl,hb⟩;refine⟨_,rfl,?_⟩;replace HB:=am (below_step (HB.out) hb);clear hb))
  go_ret
  exact⟨by rfl,HB.out⟩
 ·rw[if_neg c3]at H
  exact absurd H (by simp)

/-! ### ententeref02_eight: function 47 -/
def ententeref02_eight.l0:Nat→Int→List Int→Int→Option (ByteArray)
 |0,_,_,_=> none
 |k+1,x0,x3,x4=> if x4< 8 then(if x3.length< 140737488355328 then(ententeref02_eight.l0 k (IntKind.u64.wrap (Int.tdiv x0 256)) (x3++[(Int.tmod x0 256) % 256]) (wrap64 (x4+1)))else(none))else(some (strOfNums x3))
def ententeref02_eight.f (k:Nat) (a0:Int):Option (ByteArray):=ententeref02_eight.l0 k a0 ([]:List Int) 0
set_option maxHeartbeats 8000000 in
set_option maxRecDepth 100000 in
theorem ententeref02_eight.calls (k:Nat) (a0:Int) (r:ByteArray) (w:World) (h:ententeref02_eight.f k a0=some r) :
  Calls Tryz.prog 47 #[.int .u64 a0] w fun e w'=> e=.returned (.string r)∧Below w.heap.size w w':=by
 have HB:=am (Below.refl w.heap.size w)
 unfold ententeref02_eight.f at h
 have H:=h
 clear h
 have H':=am H
 clear H
 go_enter Tryz.func47,Tryz.ntmps47
 go_wp2
 go_loopg [0,3,4] k (fun kq v0 v3 v4 w'=> ∃ (aA:Int) (aC:List Int) (aD:Int),v0=.int .u64 aA∧v4=i6 aD∧Aside0 (ententeref02_eight.l0 kq aA aC aD=some r)∧Aside0 (kq≤k)∧Aside0 (Kd.R (Kd.int .u8) 5 w' w.heap.size (fun _=> True) v3 aC)∧Aside0 (Below w.heap.size w w'))
 case atStart=> exact⟨(a0),(([]:List Int)),(0),(by rfl),(by rfl),H',⟨Nat.le_refl _⟩,⟨by exact Kd.R_nil _ _ _ _ _⟩,⟨HB.out⟩⟩
 case round=>
  clear H'
  obtain⟨aA,aC,aD,rfl,rfl,HA,aI,HO_3,HB⟩:=hrel
  cases gk with
  |zero=> exact absurd HA.out (by simp[ententeref02_eight.l0])
  |succ k1=>
   have H:=HA.out
   clear HA
   simp only[ententeref02_eight.l0]at H
   by_cases c2:aD< 8
   ·rw[if_pos c2]at H
    have aH:=decide_eq_true c2
    clear c2
    by_cases c3:aC.length< 140737488355328
    ·rw[if_pos c3]at H
     have LMc3:=am c3
     clear c3
     obtain⟨aE,hy371⟩:∃ y_:List Int,y_=(aC++[(Int.tmod aA 256) % 256]):=⟨_,rfl⟩
     replace H:(ententeref02_eight.l0 k1 (IntKind.u64.wrap (Int.tdiv aA 256)) aE (wrap64 (aD+1)))=some r:=by(rw[hy371];with_reducible exact H)
     have Ny371:=am hy371
     clear hy371
     have H':=am H
     clear H
     go_wp2_with (first|((with_reducible refine gate_builtin (b:=.append) (xs:=#[.tmp 9,.tmp 13]) rfl ?_);at_builtin;refine Kd.R_append (Kd.int .u8) (w0:=w) w.heap.size rfl (.tmp 9) (.tmp 13) 81 5 (.int .u8 0) 1 rfl Tryz.underlying81 info5 rfl (by decide) (by omega) u3 aC ((Int.tmod aA 256) % 256) [.int .u8 ((Int.tmod aA 256) % 256)] (fun _=> True) (fun _=> False) rfl rfl ?aP (fun _ hk=> hk.elim) ?aF ?aO ?aB ?aS ?aL ?_;(case aP=> exact rfl);(case aB=> exact(HB.out));(case aF=> exact(fun _ _=> trivial));(case aO=> exact(by exact HO_3.out));(case aS=> exact(below_size (HB.out)));(case aL=> have:=LMc3.out;omega);intro v372 w4 ho hb hg hat;rw[← Ny371.out]at ho;replace HB:=am (hb);have aG:=am (ho);clear HO_3;clear ho hb hg hat))
     go_roundg k1
     case measure=> have:=aI.out;omega
     case rel=> exact⟨(IntKind.u64.wrap (Int.tdiv aA 256)),(aE),(wrap64 (aD+1)),(by rfl),(by rfl),H',⟨by have:=aI.out;omega⟩,⟨by exact aG.out⟩,⟨HB.out⟩⟩
    ·rw[if_neg c3]at H
     exact absurd H (by simp)
   ·rw[if_neg c2]at H
    have aH:=decide_eq_false c2
    clear c2
    obtain rfl:=Option.some.inj H
    have hcv5:=own_string (P:=Tryz.prog) Tryz.underlying81 Tryz.underlying5 Tryz.underlying9 (Kd.own_of_R HO_3.out)
    go_wp2
    go_ret
    exact⟨by rfl,HB.out⟩

/-! ### ententeref02_Sum: function 48 -/
mutual
def ententeref02_Sum.l0:Nat→ByteArray→Int→Int→Option (Int)
 |0,_,_,_=> none
 |k+1,x0,x3,x4=> if x4< (x0.size:Int)then(ententeref02_Sum.l1 k x0 x3 x4 0)else(some (IntKind.u64.wrap (18446744073709551615 - x3)))
def ententeref02_Sum.l1:Nat→ByteArray→Int→Int→Int→Option (Int)
 |0,_,_,_,_=> none
 |k+1,x0,x3,x4,x5=> if x5< 8 then(if 0≤x4 then(if x4< (x0.size:Int)then(if 0≤x5 then(if(Int.tmod x3 2)=(Int.tmod (IntKind.u64.wrap (shr .u8 (bt x0 x4) x5)) 2)then(ententeref02_Sum.l1 k x0 (IntKind.u64.wrap (Int.tdiv x3 2)) x4 (wrap64 (x5+1)))else(ententeref02_Sum.l1 k x0 (Go.bits .xor .u64 (IntKind.u64.wrap (Int.tdiv x3 2)) 14514072000185962306) x4 (wrap64 (x5+1))))else(none))else(none))else(none))else(ententeref02_Sum.l0 k x0 x3 (wrap64 (x4+1)))
end
def ententeref02_Sum.f (k:Nat) (a0:ByteArray):Option (Int):=ententeref02_Sum.l0 k a0 18446744073709551615 0
set_option maxHeartbeats 8000000 in
set_option maxRecDepth 100000 in
theorem ententeref02_Sum.calls (k:Nat) (a0:ByteArray) (r:Int) (w:World) (h:ententeref02_Sum.f k a0=some r) :
  Calls Tryz.prog 48 #[.string a0] w fun e w'=> e=.returned (.int .u64 r)∧Drawn0 w w':=by
 unfold ententeref02_Sum.f at h
 have H:=h
 clear h
 have H':=am H
 clear H
 go_enter Tryz.func48,Tryz.ntmps48
 go_wp2
 go_loopg [3,4] k (fun kq v3 v4 w'=> ∃ (aD:Int) (aA:Int),v3=.int .u64 aD∧v4=i6 aA∧Aside0 (ententeref02_Sum.l0 kq a0 aD aA=some r)∧Aside0 (kq≤k)∧Drawn0 w w')
 case atStart=> exact⟨(18446744073709551615),(0),(by rfl),(by rfl),H',⟨Nat.le_refl _⟩,Drawn0.refl _⟩
 case round=>
  clear H'
  obtain⟨aD,aA,rfl,rfl,HA,aE,⟨m1,rfl⟩⟩:=hrel
  cases gk with
  |zero=> exact absurd HA.out (by simp[ententeref02_Sum.l0])
  |succ k1=>
   have H:=HA.out
   clear HA
   simp only[ententeref02_Sum.l0]at H
   by_cases c2:aA< (a0.size:Int)
   ·rw[if_pos c2]at H
    have aG:=decide_eq_true c2
    clear c2
    have H':=am H
    clear H
    go_wp2
    go_loopg [3,5] k1 (fun kq v3 v5 w'=> ∃ (aC:Int) (aB:Int),v3=.int .u64 aC∧v5=i6 aB∧Aside0 (ententeref02_Sum.l1 kq a0 aC aA aB=some r)∧Aside0 (kq≤k1)∧Drawn0 w w')
    case atStart=> exact⟨(aD),(0),(by rfl),(by rfl),H',⟨Nat.le_refl _⟩,by repeat(first|exact Drawn0.refl _|apply Drawn0.step)⟩
    case round=>
     clear H'
     clear aG
     obtain⟨aC,aB,rfl,rfl,HA,aF,⟨m2,rfl⟩⟩:=hrel
     cases gk with
     |zero=> exact absurd HA.out (by simp[ententeref02_Sum.l1])
     |succ k2=>
      have H:=HA.out
      clear HA
      simp only[ententeref02_Sum.l1]at H
      by_cases c3:aB< 8
      ·rw[if_pos c3]at H
       have aH:=decide_eq_true c3
       clear c3
       by_cases c4:0≤aA
       ·rw[if_pos c4]at H
        have aK:=decide_eq_true c4
        clear c4
        by_cases c5:aA< (a0.size:Int)
        ·rw[if_pos c5]at H
         have aL:=decide_eq_true c5
         clear c5
         by_cases c7:0≤aB
         ·rw[if_pos c7]at H
          have aM:=eq_true c7
          have aN:=decide_eq_true c7
          clear c7
          obtain⟨ji8,hji8⟩:∃ j_:Int,(shr .u8 (bt a0 aA) aB)=j_:=⟨_,rfl⟩
          replace H:(if(Int.tmod aC 2)=(Int.tmod (IntKind.u64.wrap (ji8)) 2)then(ententeref02_Sum.l1 k2 a0 (IntKind.u64.wrap (Int.tdiv aC 2)) aA (wrap64 (aB+1)))else(ententeref02_Sum.l1 k2 a0 (Go.bits .xor .u64 (IntKind.u64.wrap (Int.tdiv aC 2)) 14514072000185962306) aA (wrap64 (aB+1))))=some r:=by(rw[hji8]at H;exact H)
          have hji8_:((bt a0 aA) / 2 ^ min aB.toNat 8)=ji8:=hji8
          have hji8z:aB≤8→((bt a0 aA) / 2 ^ aB.toNat)=ji8:=shr_small hji8
          by_cases c9:(Int.tmod aC 2)=(Int.tmod (IntKind.u64.wrap (ji8)) 2)
          ·rw[if_pos c9]at H
           have aI:=beq_iff_eq.mpr c9
           have aJ:=bne_eq_false_iff_eq.mpr c9
           clear c9
           have H':=am H
           clear H
           have p6:0≤(aA:Int):=of_decide_eq_true (by(with_reducible assumption))
           have q6:aA< (a0.size:Int):=of_decide_eq_true (by(with_reducible assumption))
           have aO:=bt_at a0 aA
           replace p6:=eq_true p6
           replace q6:=eq_true q6
           go_wp2
           (go_roundg k2)
           case measure=> have:=aE.out;have:=aF.out;omega
           case rel=> first|(exact⟨(IntKind.u64.wrap (Int.tdiv aC 2)),(wrap64 (aB+1)),(by rfl),(by rfl),H',⟨by have:=aE.out;have:=aF.out;omega⟩,by repeat(first|exact Drawn0.refl _|apply Drawn0.step)⟩)|(exact⟨(IntKind.u64.wrap (Int.tdiv aC 2)),(wrap64 (aB+1)),(by first|rfl|(simp;done)|(simp[*];done)),(by first|rfl|(simp;done)|(simp[*];done)),(by simp only[← hji8]at H' ⊢;exact H'),⟨by have:=aE.out;have:=aF.out;omega⟩,by repeat(first|exact Drawn0.refl _|apply Drawn0.step)⟩)
          ·rw[if_neg c9]at H
           have aI:=beq_eq_false_iff_ne.mpr c9
           have aJ:=bne_iff_ne.mpr c9
           have H':=am H
           clear H
           have p6:0≤(aA:Int):=of_decide_eq_true (by(with_reducible assumption))
           have q6:aA< (a0.size:Int):=of_decide_eq_true (by(with_reducible assumption))
           have aO:=bt_at a0 aA
           replace p6:=eq_true p6
           replace q6:=eq_true q6
           go_wp2
           (go_roundg k2)
           case measure=> have:=aE.out;have:=aF.out;omega
           case rel=> first|(exact⟨(Go.bits .xor .u64 (IntKind.u64.wrap (Int.tdiv aC 2)) 14514072000185962306),(wrap64 (aB+1)),(by rfl),(by rfl),H',⟨by have:=aE.out;have:=aF.out;omega⟩,by repeat(first|exact Drawn0.refl _|apply Drawn0.step)⟩)|(exact⟨(Go.bits .xor .u64 (IntKind.u64.wrap (Int.tdiv aC 2)) 14514072000185962306),(wrap64 (aB+1)),(by first|rfl|(simp;done)|(simp[*];done)),(by first|rfl|(simp;done)|(simp[*];done)),(by simp only[← hji8]at H' ⊢;exact H'),⟨by have:=aE.out;have:=aF.out;omega⟩,by repeat(first|exact Drawn0.refl _|apply Drawn0.step)⟩)
         ·rw[if_neg c7]at H
          exact absurd H (by simp)
        ·rw[if_neg c5]at H
         exact absurd H (by simp)
       ·rw[if_neg c4]at H
        exact absurd H (by simp)
      ·rw[if_neg c3]at H
       have aH:=decide_eq_false c3
       clear c3
       have H':=am H
       clear H
       go_wp2
       go_roundg k2
       case measure=> have:=aE.out;have:=aF.out;omega
       case rel=> exact⟨(aC),(wrap64 (aA+1)),(by rfl),(by rfl),H',⟨by have:=aE.out;have:=aF.out;omega⟩,by repeat(first|exact Drawn0.refl _|apply Drawn0.step)⟩
   ·rw[if_neg c2]at H
    have aG:=decide_eq_false c2
    clear c2
    obtain rfl:=Option.some.inj H
    go_wp2
    go_ret
    exact⟨by rfl,by repeat(first|exact Drawn0.refl _|apply Drawn0.step)⟩

/-! ### ententeref02_Seal: function 25 -/
def ententeref02_Seal.j0:Nat→Int→ByteArray→Bool→Option (ByteArray×Int)
 |0,_,_,_=> none
 |k+1,x0,x1,aU=> if aU=true then(some ((⟨#[]⟩:ByteArray),2))else(if(x1.size:Int)> 30000 then(some ((⟨#[]⟩:ByteArray),3))else((some (([231,(x0) % 256]:List Int):List Int)).bind fun aC=> ((ententeref01_Text.f k x1).bind fun aA=> (if(strOfNums aC).size+aA.size≤9223372036854775807 then((ententeref02_Sum.f k ((strOfNums aC)++aA)).bind fun aF=> ((ententeref02_eight.f k aF).bind fun aD=> (if(strOfNums aC).size+aA.size+aD.size≤9223372036854775807 then(some (((strOfNums aC)++aA)++aD,0))else(none))))else(none)))))
def ententeref02_Seal.f (k:Nat) (a0:Int) (a1:ByteArray):Option (ByteArray×Int):=if a0< 0 then(ententeref02_Seal.j0 k a0 a1 true)else(ententeref02_Seal.j0 k a0 a1 (decide (a0> 255)))
def ententeref02_Seal.T5:Bool×List (List Nat×List Nat):=(true,[([],[]),([0],[0]),([1],[1]),([2],[2]),([],[]),([4],[4]),([3,5],[3,5]),([6,5,0,1,2,3,4,5,6],[6])])
def ententeref02_Seal.B5:List Nat:=[0,1,3,7,0,16,63,127]
theorem ententeref02_Seal.tab5:rtab .any (opsOf Tryz.f25 5)=ententeref02_Seal.T5:=by kernel_rfl
theorem ententeref02_Seal.bits5:waitsOk ententeref02_Seal.T5.2 ententeref02_Seal.B5=true:=by kernel_rfl
set_option maxHeartbeats 8000000 in
set_option maxRecDepth 100000 in
theorem ententeref02_Seal.calls (k:Nat) (a0:Int) (a1:ByteArray) (r1:ByteArray) (r2:Int) (w:World) (h:ententeref02_Seal.f k a0 a1=some (r1,r2)) :
  Calls Tryz.prog 25 #[i6 a0,.string a1] w fun e w'=> e=.returned (.tuple #[.string r1,i6 r2])∧Below w.heap.size w w':=by
 have HB:=am (Below.refl w.heap.size w)
 unfold ententeref02_Seal.f at h
 have H:=h
 clear h
 have HC3:=am H
 clear H
 go_enter Tryz.func25,Tryz.ntmps25
 go_upto_region 1 with(fail)
 go_cut [12] (fun v12 wc=> ∃ (kq:Nat) (aG:Bool),v12=.bool aG∧Aside0 (ententeref02_Seal.j0 kq a0 a1 aG=some (r1,r2))∧Aside0 (kq≤k)∧Aside0 (Below w.heap.size w wc))
 case first=>
  have H:=HC3.out
  clear HC3
  by_cases c4:a0< 0
  ·rw[if_pos c4]at H
   have aL:=decide_eq_true c4
   clear c4
   (skip)
   have H':=am H
   clear H
   go_wp2
   go_meet
   case rel=> exact⟨_,(true),(by rfl),H',⟨by omega⟩,⟨HB.out⟩⟩
  ·rw[if_neg c4]at H
   have aL:=decide_eq_false c4
   clear c4
   (skip)
   have H':=am H
   clear H
   go_wp2
   go_meet
   case rel=> exact⟨_,(decide (a0> 255)),(by rfl),H',⟨by omega⟩,⟨HB.out⟩⟩
 case rest=>
  clear HC3
  obtain⟨kq,aG,rfl,HA,a2,HB⟩:=hcut
  cases kq with
  |zero=> exact absurd HA.out (by simp[ententeref02_Seal.j0])
  |succ aI=>
   have H:=HA.out
   clear HA
   simp only[ententeref02_Seal.j0]at H
   by_cases c5:aG=true
   ·subst c5
    have H1:(some ((⟨#[]⟩:ByteArray),2))=some (r1,r2):=by rw[if_pos rfl]at H;exact H
    clear H
    have H:=H1
    clear H1
    simp only[Option.some.injEq,Prod.mk.injEq]at H
    obtain⟨rfl,rfl⟩:=H
    go_wp2
    go_ret2
    exact⟨by rfl,HB.out⟩
   ·replace c5:=Bool.eq_false_iff.mpr c5
    subst c5
    have H1:(if(a1.size:Int)> 30000 then(some ((⟨#[]⟩:ByteArray),3))else((some (([231,(a0) % 256]:List Int):List Int)).bind fun aC=> ((ententeref01_Text.f aI a1).bind fun aA=> (if(strOfNums aC).size+aA.size≤9223372036854775807 then((ententeref02_Sum.f aI ((strOfNums aC)++aA)).bind fun aF=> ((ententeref02_eight.f aI aF).bind fun aD=> (if(strOfNums aC).size+aA.size+aD.size≤9223372036854775807 then(some (((strOfNums aC)++aA)++aD,0))else(none))))else(none)))))=some (r1,r2):=by rw[if_neg (show ¬ (false=true)by decide)]at H;exact H
    clear H
    have H:=H1
    clear H1
    by_cases c6:(a1.size:Int)> 30000
    ·rw[if_pos c6]at H
     have aM:decide (30000< (a1.size:Int))=true:=decide_eq_true c6
     have aN:decide (30000< a1.size)=true:=decide_eq_true (by omega)
     clear c6
     simp only[Option.some.injEq,Prod.mk.injEq]at H
     obtain⟨rfl,rfl⟩:=H
     go_wp2
     go_ret2
     exact⟨by rfl,HB.out⟩
    ·rw[if_neg c6]at H
     have aM:decide (30000< (a1.size:Int))=false:=decide_eq_false c6
     have aN:decide (30000< a1.size)=false:=decide_eq_false (by omega)
     clear c6
     obtain⟨aC,hy374⟩:∃ y_:List Int,y_=(([231,(a0) % 256]:List Int)):=⟨_,rfl⟩
     replace H:((ententeref01_Text.f aI a1).bind fun aA=> (if(strOfNums aC).size+aA.size≤9223372036854775807 then((ententeref02_Sum.f aI ((strOfNums aC)++aA)).bind fun aF=> ((ententeref02_eight.f aI aF).bind fun aD=> (if(strOfNums aC).size+aA.size+aD.size≤9223372036854775807 then(some (((strOfNums aC)++aA)++aD,0))else(none))))else(none)))=some (r1,r2):=by(have H2_:=(Option.bind_some _ _).symm.trans H;rw[hy374];with_reducible exact H2_)
     have Ny374:=am hy374
     clear hy374
     obtain⟨aA,aO,H⟩:=Option.bind_eq_some_iff.mp H
     try dsimp only at H
     have A7:=am aO
     clear aO
     by_cases c8:(strOfNums aC).size+aA.size≤9223372036854775807
     ·rw[if_pos c8]at H
      have aV:=eq_true c8
      have aW:=decide_eq_true c8
      try have aX:(9223372036854775807< (strOfNums aC).size+aA.size)=False:=eq_false (Nat.not_lt.2 c8)
      obtain⟨aF,aP,H⟩:=Option.bind_eq_some_iff.mp H
      try dsimp only at H
      have A9:=am aP
      clear aP
      obtain⟨aD,aJ,H⟩:=Option.bind_eq_some_iff.mp H
      try dsimp only at H
      have aY:=am aJ
      clear aJ
      by_cases aK:(strOfNums aC).size+aA.size+aD.size≤9223372036854775807
      ·rw[if_pos aK]at H
       have aQ:=eq_true aK
       have aR:=decide_eq_true aK
       try have aS:(9223372036854775807< (strOfNums aC).size+aA.size+aD.size)=False:=eq_false (Nat.not_lt.2 aK)
       simp only[Option.some.injEq,Prod.mk.injEq]at H
       obtain⟨rfl,rfl⟩:=H
       try go_wp2
       have aE:=am (below_drew1 HB.out)
       clear HB
       have HB:=aE
       clear aE
       refine start_ (n:=8) (S:=fun w'=> True) (ds:=[]) (rl [0,8]) (by kernel_rfl) rfl rfl trivial (fun hHeld=> ?_);refine with_tabW ententeref02_Seal.tab5 ententeref02_Seal.bits5 (fun HT_ HW_=> ?_)
       generalize wc.drew=a3 at HB hHeld ⊢
       refine pure_ (i:=0) (N:=some 16) (v:=?_) (a':=?_) (rl [1,7]) rfl rfl (any_of HT_.out (by kernel_rfl)) (fun _ _ _ h=> h) (Or.inl ⟨by rfl,?_⟩) ?_ ?_
       rotate_left
       ·intro w'
        go_simp
        with_reducible rfl
       rotate_left
       ·simp only[Act.put,l_a,l_z,l_s,i64_w,i32_w]
        rfl
       refine pure_ (i:=1) (N:=some 17) (v:=?_) (a':=?_) (rl [2,6]) rfl rfl (any_of HT_.out (by kernel_rfl)) (fun _ _ _ h=> h) (Or.inl ⟨by rfl,?_⟩) ?_ ?_
       rotate_left
       ·intro w'
        go_simp
        with_reducible rfl
       rotate_left
       ·simp only[Act.put,l_a,l_z,l_s,i64_w,i32_w]
        rfl
       refine pure_ (i:=4) (N:=some 20) (v:=?_) (a':=?_) (rl [2,2,1,3]) rfl rfl (any_of HT_.out (by kernel_rfl)) (fun _ _ _ h=> h) (Or.inl ⟨by rfl,?_⟩) ?_ ?_
       rotate_left
       ·intro w'
        go_simp
        with_reducible rfl
       rotate_left
       ·simp only[Act.put,l_a,l_z,l_s,i64_w,i32_w]
        rfl
       refine join_ (σ:=Value) 2 (rl [6,2]) (fun s_=> [(18,s_),(19,.string (strOfNums aC)),(21,.string aA)]) (fun s_ w'=> (Kd.R (Kd.int .u8) 5 w' w.heap.size (fun _=> True) s_ aC)∧(Below w.heap.size w w')) ?_ ?_
       rotate_left
       ·intro hCont
        refine two_ (i:=2) (j:=5) (Ni:=some 18) (Nj:=some 21) (rl [3,1,1,3]) (rl [2,2,2,2]) rfl rfl rfl rfl (two_of HT_.out (by kernel_rfl)) (by decide) (by decide) (fun K hK=> ?_) (fun K hK=> ?_)
        ·skip
         refine Kd.R_lit_step (Kd.int .u8) _ 5 ?hg (N:=18) ?hd (xs:=([231,(a0) % 256]:List Int)) (inner:=[.int .u8 231,.int .u8 ((a0) % 256)]) (ok:=fun _=> True) (okp:=fun _=> True) ?hr ?hp (fun _ hk=> hk) trivial (Below.refl _ _) (Nat.le_refl _) (by simp) ?_;(case hd=> rfl);(case hg=> rfl);(case hr=> (go_simp;rfl));(case hp=> exact(Reps.one (show Kd.M (Kd.int .u8) _ _ _ 231 [.int .u8 231]from rfl) (Reps.one (show Kd.M (Kd.int .u8) _ _ _ ((a0) % 256) [.int .u8 ((a0) % 256)]from rfl) (Reps.none _ _))))
         intro v375 aZ ho14 hb hg_ hnew_
         clear hg_ hnew_
         (rw[← Ny374.out]at ho14)
         have aE:=am (Kd.R_lower ho14 (below_size (HB.out)))
         have aH:=am (below_step (HB.out) hb)
         clear HB
         have aB:=aE
         have HB:=aH
         clear aE aH
         clear hb ho14
         refine hK.out _ _ trivial (fun hHeld=> ?_)
         clear hK K
         refine norm_ (a':=?_) ?_ ?_
         rotate_left
         ·show Act.put _ (some 18) _=_
          simp only[Act.put,l_a,l_z,l_s,i64_w,i32_w]
          rfl
         refine two_ (i:=3) (j:=5) (Ni:=some 19) (Nj:=some 21) (rl [5,3]) (rl [3,1,2,2]) rfl rfl rfl rfl (two_of HT_.out (by kernel_rfl)) (by decide) (by decide) (fun K hK=> ?_) (fun K hK=> ?_)
         ·skip
          have hcv15:=own_string (P:=Tryz.prog) Tryz.underlying81 Tryz.underlying5 Tryz.underlying9 (Kd.own_of_R aB.out)
          refine value_ (w1:=?_) (v:=?_) (by rfl) rfl ?_ ?_
          rotate_left 2
          ·go_simp
           constructor
           ·rfl
           ·rfl
          clear hcv15
          refine hK.out _ _ trivial (fun hHeld=> ?_)
          clear hK K
          refine norm_ (a':=?_) ?_ ?_
          rotate_left
          ·show Act.put _ (some 19) _=_
           simp only[Act.put,l_a,l_z,l_s,i64_w,i32_w]
           rfl
          refine one_ (i:=5) (N:=some 21) (rl [6,2]) rfl rfl (one_of HT_.out (by kernel_rfl)) (by decide) (fun K hK=> ?_)
          refine goes_ Tryz.func24 (by kernel_rfl) rfl #[.string a1] (by rfl) rfl rfl (by(try simp only[l_m,l_c,l_n]);rfl) ?_
          with_reducible refine(ententeref01_Text.calls aI a1 aA _ A7.out).mono ?_
          rintro e a4 ⟨rfl,hb⟩
          refine⟨_,rfl,?_⟩
          have aE:=am (Kd.R_below (by exact aB.out) hb)
          have aH:=am (below_step (HB.out) hb)
          clear aB HB
          have aB:=aE
          have HB:=aH
          clear aE aH
          clear hb
          refine hK.out _ _ trivial (fun hHeld=> ?_)
          clear hK K
          refine norm_ (a':=?_) ?_ ?_
          rotate_left
          ·show Act.put _ (some 21) _=_
           simp only[Act.put,l_a,l_z,l_s,i64_w,i32_w]
           rfl
          exact norm_ (by simp only[putAll,Act.put,l_a,l_z,l_s]) (hCont (v375) _ ⟨(by exact aB.out),(HB.out)⟩)
         ·skip
          refine goes_ Tryz.func24 (by kernel_rfl) rfl #[.string a1] (by rfl) rfl rfl (by(try simp only[l_m,l_c,l_n]);rfl) ?_
          with_reducible refine(ententeref01_Text.calls aI a1 aA _ A7.out).mono ?_
          rintro e a5 ⟨rfl,hb⟩
          refine⟨_,rfl,?_⟩
          have aE:=am (Kd.R_below (by exact aB.out) hb)
          have aH:=am (below_step (HB.out) hb)
          clear aB HB
          have aB:=aE
          have HB:=aH
          clear aE aH
          clear hb
          refine hK.out _ _ trivial (fun hHeld=> ?_)
          clear hK K
          refine norm_ (a':=?_) ?_ ?_
          rotate_left
          ·show Act.put _ (some 21) _=_
           simp only[Act.put,l_a,l_z,l_s,i64_w,i32_w]
           rfl
          refine one_ (i:=3) (N:=some 19) (rl [6,2]) rfl rfl (one_of HT_.out (by kernel_rfl)) (by decide) (fun K hK=> ?_)
          have hcv16:=own_string (P:=Tryz.prog) Tryz.underlying81 Tryz.underlying5 Tryz.underlying9 (Kd.own_of_R aB.out)
          refine value_ (w1:=?_) (v:=?_) (by rfl) rfl ?_ ?_
          rotate_left 2
          ·go_simp
           constructor
           ·rfl
           ·rfl
          clear hcv16
          refine hK.out _ _ trivial (fun hHeld=> ?_)
          clear hK K
          refine norm_ (a':=?_) ?_ ?_
          rotate_left
          ·show Act.put _ (some 19) _=_
           simp only[Act.put,l_a,l_z,l_s,i64_w,i32_w]
           rfl
          exact norm_ (by simp only[putAll,Act.put,l_a,l_z,l_s]) (hCont (v375) _ ⟨(by exact aB.out),(HB.out)⟩)
        ·skip
         refine goes_ Tryz.func24 (by kernel_rfl) rfl #[.string a1] (by rfl) rfl rfl (by(try simp only[l_m,l_c,l_n]);rfl) ?_
         with_reducible refine(ententeref01_Text.calls aI a1 aA _ A7.out).mono ?_
         rintro e aZ ⟨rfl,hb⟩
         refine⟨_,rfl,?_⟩
         have aE:=am (below_step (HB.out) hb)
         clear HB
         have HB:=aE
         clear aE
         clear hb
         refine hK.out _ _ trivial (fun hHeld=> ?_)
         clear hK K
         refine norm_ (a':=?_) ?_ ?_
         rotate_left
         ·show Act.put _ (some 21) _=_
          simp only[Act.put,l_a,l_z,l_s,i64_w,i32_w]
          rfl
         refine one_ (i:=2) (N:=some 18) (rl [3,1,2,2]) rfl rfl (one_of HT_.out (by kernel_rfl)) (by decide) (fun K hK=> ?_)
         refine Kd.R_lit_step (Kd.int .u8) _ 5 ?hg (N:=18) ?hd (xs:=([231,(a0) % 256]:List Int)) (inner:=[.int .u8 231,.int .u8 ((a0) % 256)]) (ok:=fun _=> True) (okp:=fun _=> True) ?hr ?hp (fun _ hk=> hk) trivial (Below.refl _ _) (Nat.le_refl _) (by simp) ?_;(case hd=> rfl);(case hg=> rfl);(case hr=> (go_simp;rfl));(case hp=> exact(Reps.one (show Kd.M (Kd.int .u8) _ _ _ 231 [.int .u8 231]from rfl) (Reps.one (show Kd.M (Kd.int .u8) _ _ _ ((a0) % 256) [.int .u8 ((a0) % 256)]from rfl) (Reps.none _ _))))
         intro v375 a6 ho15 hb hg_ hnew_
         clear hg_ hnew_
         (rw[← Ny374.out]at ho15)
         have aE:=am (Kd.R_lower ho15 (below_size (HB.out)))
         have aH:=am (below_step (HB.out) hb)
         clear HB
         have aB:=aE
         have HB:=aH
         clear aE aH
         clear hb ho15
         refine hK.out _ _ trivial (fun hHeld=> ?_)
         clear hK K
         refine norm_ (a':=?_) ?_ ?_
         rotate_left
         ·show Act.put _ (some 18) _=_
          simp only[Act.put,l_a,l_z,l_s,i64_w,i32_w]
          rfl
         refine one_ (i:=3) (N:=some 19) (rl [6,2]) rfl rfl (one_of HT_.out (by kernel_rfl)) (by decide) (fun K hK=> ?_)
         have hcv16:=own_string (P:=Tryz.prog) Tryz.underlying81 Tryz.underlying5 Tryz.underlying9 (Kd.own_of_R aB.out)
         refine value_ (w1:=?_) (v:=?_) (by rfl) rfl ?_ ?_
         rotate_left 2
         ·go_simp
          constructor
          ·rfl
          ·rfl
         clear hcv16
         refine hK.out _ _ trivial (fun hHeld=> ?_)
         clear hK K
         refine norm_ (a':=?_) ?_ ?_
         rotate_left
         ·show Act.put _ (some 19) _=_
          simp only[Act.put,l_a,l_z,l_s,i64_w,i32_w]
          rfl
         exact norm_ (by simp only[putAll,Act.put,l_a,l_z,l_s]) (hCont (v375) _ ⟨(by exact aB.out),(HB.out)⟩)
       rintro v375 aT ⟨h0_,h1_⟩
       have aE:Aside0 (Kd.R (Kd.int .u8) 5 aT w.heap.size (fun _=> True) v375 aC):=⟨h0_⟩
       have aH:Aside0 (Below w.heap.size w aT):=⟨h1_⟩
       clear HB
       clear h0_ h1_
       have aB:=aE
       have HB:=aH
       clear aE aH
       have hHeld:=trivial
       refine norm_ (a':=?_) ?_ ?_
       rotate_left
       ·simp only[putAll,Act.put,l_a,l_z,l_s]
        rfl
       refine pure_ (i:=6) (N:=some 22) (v:=?_) (a':=?_) (rl [7,1]) rfl rfl (any_of HT_.out (by kernel_rfl)) (fun _ _ _ h=> h) (Or.inl ⟨by rfl,?_⟩) ?_ ?_
       rotate_left
       ·intro w'
        go_simp
        with_reducible rfl
       rotate_left
       ·simp only[Act.put,l_a,l_z,l_s,i64_w,i32_w]
        rfl
       refine pure_ (i:=7) (N:=some 6) (v:=?_) (a':=?_) (rl [8]) rfl rfl (any_of HT_.out (by kernel_rfl)) (fun _ _ _ h=> h) (Or.inl ⟨by rfl,?_⟩) ?_ ?_
       rotate_left
       ·intro w'
        go_simp
        with_reducible rfl
       rotate_left
       ·simp only[Act.put,l_a,l_z,l_s,i64_w,i32_w]
        rfl
       refine done_ (done_of HT_.out (by kernel_rfl)) ?_
       try go_wp2_with (first|((with_reducible refine gate_callee (f:=48) rfl ?_);refine goesL_ (some 25) rfl rfl Tryz.func48 (by kernel_rfl) rfl #[.string ((strOfNums aC)++aA)] rfl (by(try simp only[l_m,l_c,l_n]);rfl) ?_;(with_reducible refine(ententeref02_Sum.calls aI ((strOfNums aC)++aA) aF _ A9.out).mono ?_);rintro e w' ⟨rfl,⟨nd,rfl⟩⟩;refine⟨_,rfl,?_⟩)|((with_reducible refine gate_callee (f:=47) rfl ?_);refine goesL_ (some 26) rfl rfl Tryz.func47 (by kernel_rfl) rfl #[.int .u64 aF] rfl (by(try simp only[l_m,l_c,l_n]);rfl) ?_;(with_reducible refine(ententeref02_eight.calls aI aF aD _ aY.out).mono ?_);rintro e a7 ⟨rfl,hb⟩;refine⟨_,rfl,?_⟩;replace aB:=am (Kd.R_below (by(with_reducible repeat apply Kd.R_drewN);exact aB.out) hb);replace HB:=am (below_step (pw_below_drewN HB.out _) hb);clear hb))
       go_ret2
       exact⟨by rfl,HB.out⟩
      ·rw[if_neg aK]at H
       exact absurd H (by simp)
     ·rw[if_neg c8]at H
      exact absurd H (by simp)

/-! ### ententeref13_Encode: function 8 -/
def ententeref13_Encode.f (k:Nat) (aO:Int) (aP:Int) (aQ:Int) (aM:Int) (aR:Int) (aS:Int) (aT:Int) (aU:Int) (aV:Int) (aN:List (S46)) (aG:ByteArray) (aH:Int):Option (ByteArray×Int):=(ententeref13_Frame.f k aO aP aQ aM aR aS aT aU aV aN aG aH).bind fun bD=> (if bD=0 then((ententeref13_number.f k aO).bind fun aC=> ((ententeref13_number.f k aP).bind fun aD=> (if aC.size+aD.size≤9223372036854775807 then((ententeref13_number.f k aQ).bind fun aE=> (if aC.size+aD.size+aE.size≤9223372036854775807 then((ententeref13_number.f k aM).bind fun aF=> (if aC.size+aD.size+aE.size+aF.size≤9223372036854775807 then((ententeref13_number.f k aR).bind fun aK=> (if aC.size+aD.size+aE.size+aF.size+aK.size≤9223372036854775807 then((ententeref13_number.f k aS).bind fun aL=> (if aC.size+aD.size+aE.size+aF.size+aK.size+aL.size≤9223372036854775807 then(if aM=0 then((ententeref02_Seal.f k 1 (((((aC++aD)++aE)++aF)++aK)++aL)).bind fun bE=> (some (bE.1,bE.2)))else((ententeref03_Show.f k aU aV aN).bind fun bM=> ((ententeref13_number.f k aT).bind fun aW=> (if aC.size+aD.size+aE.size+aF.size+aK.size+aL.size+aW.size≤9223372036854775807 then((ententeref01_Text.f k bM.1).bind fun aX=> (if aC.size+aD.size+aE.size+aF.size+aK.size+aL.size+aW.size+aX.size≤9223372036854775807 then((ententeref01_Text.f k aG).bind fun aZ=> (if aC.size+aD.size+aE.size+aF.size+aK.size+aL.size+aW.size+aX.size+aZ.size≤9223372036854775807 then((ententeref13_number.f k aH).bind fun bA=> (if aC.size+aD.size+aE.size+aF.size+aK.size+aL.size+aW.size+aX.size+aZ.size+bA.size≤9223372036854775807 then((ententeref02_Seal.f k 1 (((((((((aC++aD)++aE)++aF)++aK)++aL)++aW)++aX)++aZ)++bA)).bind fun bF=> (some (bF.1,bF.2)))else(none)))else(none)))else(none)))else(none)))))else(none)))else(none)))else(none)))else(none)))else(none))))else(some ((⟨#[]⟩:ByteArray),130)))
def ententeref13_Encode.T3:Bool×List (List Nat×List Nat):=(true,[([],[]),([0],[0]),([1],[1]),([],[]),([3],[3]),([4,2],[4]),([2,5],[2,5]),([],[]),([7],[7]),([8,5],[8]),([6,9],[6,9]),([],[]),([11],[11]),([12,9],[12]),([10,13],[10,13]),([],[]),([15],[15]),([16,13],[16]),([14,17],[14,17]),([],[]),([19],[19]),([20,17],[20]),([18,21],[18,21]),([22,21,0,1,2,3,4,5,6,7,8,9,10,11,12,13,14,15,16,17,18,19,20,21,22],[22])])
def ententeref13_Encode.B3:List Nat:=[0,1,3,0,8,31,63,0,128,447,1023,0,2048,7103,16383,0,32768,113599,262143,0,524288,1817535,4194303,8388607]
theorem ententeref13_Encode.tab3:rtab .any (opsOf Tryz.f8 3)=ententeref13_Encode.T3:=by kernel_rfl
theorem ententeref13_Encode.bits3:waitsOk ententeref13_Encode.T3.2 ententeref13_Encode.B3=true:=by kernel_rfl
def ententeref13_Encode.T6:Bool×List (List Nat×List Nat):=(true,[([],[]),([],[]),([1],[1]),([2],[2]),([3],[3]),([0,4],[0,4]),([],[]),([6,4],[6]),([5,7],[5,7]),([],[]),([9],[9]),([10],[10]),([11,7],[11]),([8,12],[8,12]),([],[]),([14],[14]),([15],[15]),([16,12],[16]),([13,17],[13,17]),([18,17,0,1,2,3,4,5,6,7,8,9,10,11,12,13,14,15,16,17,18],[0,18])])
def ententeref13_Encode.B6:List Nat:=[0,0,2,6,14,31,0,94,255,0,512,1536,3806,8191,0,16384,49152,122590,262143,524287]
theorem ententeref13_Encode.tab6:rtab .any (opsOf Tryz.f8 6)=ententeref13_Encode.T6:=by kernel_rfl
theorem ententeref13_Encode.bits6:waitsOk ententeref13_Encode.T6.2 ententeref13_Encode.B6=true:=by kernel_rfl
set_option maxHeartbeats 8000000 in
set_option maxRecDepth 100000 in
theorem ententeref13_Encode.calls (k:Nat) (aO:Int) (aP:Int) (aQ:Int) (aM:Int) (aR:Int) (aS:Int) (aT:Int) (aU:Int) (aV:Int) (aY:Option Addr) (c0_9:Nat) (aN:List (S46)) (aG:ByteArray) (aH:Int) (r1:ByteArray) (r2:Int) (w:World) (bG:Kd.C k46 w aY aN.length aN) (bH:aN.length≤c0_9) (h:ententeref13_Encode.f k aO aP aQ aM aR aS aT aU aV aN aG aH=some (r1,r2)) :
  Calls Tryz.prog 8 #[.agg #[i6 aO,i6 aP,i6 aQ,i6 aM,i6 aR,i6 aS,i6 aT,i6 aU,i6 aV,.slice aY aN.length c0_9,.string aG,i6 aH]] w fun e w'=> e=.returned (.tuple #[.string r1,i6 r2])∧Below w.heap.size w w':=by
 have hu28:=Tryz.underlying28
 have hu24:=Tryz.underlying24
 have bB:=am bG
 have bC:=am bH
 clear bG bH
 have HB:=am (Below.refl w.heap.size w)
 unfold ententeref13_Encode.f at h
 have H:=h
 clear h
 obtain⟨bD,fV,H⟩:=Option.bind_eq_some_iff.mp H
 try dsimp only at H
 have A2:=am fV
 clear fV
 by_cases c3:bD=0
 ·rw[if_pos c3]at H
  have fO:=beq_iff_eq.mpr c3
  have fP:=bne_eq_false_iff_eq.mpr c3
  clear c3
  obtain⟨aC,fW,H⟩:=Option.bind_eq_some_iff.mp H
  try dsimp only at H
  have A4:=am fW
  clear fW
  obtain⟨aD,fX,H⟩:=Option.bind_eq_some_iff.mp H
  try dsimp only at H
  have A5:=am fX
  clear fX
  by_cases c6:aC.size+aD.size≤9223372036854775807
  ·rw[if_pos c6]at H
   have gO:=eq_true c6
   have gP:=decide_eq_true c6
   try have gQ:(9223372036854775807< aC.size+aD.size)=False:=eq_false (Nat.not_lt.2 c6)
   obtain⟨aE,fY,H⟩:=Option.bind_eq_some_iff.mp H
   try dsimp only at H
   have A7:=am fY
   clear fY
   by_cases c8:aC.size+aD.size+aE.size≤9223372036854775807
   ·rw[if_pos c8]at H
    have gR:=eq_true c8
    have gS:=decide_eq_true c8
    try have gT:(9223372036854775807< aC.size+aD.size+aE.size)=False:=eq_false (Nat.not_lt.2 c8)
    obtain⟨aF,fZ,H⟩:=Option.bind_eq_some_iff.mp H
    try dsimp only at H
    have A9:=am fZ
    clear fZ
    by_cases c10:aC.size+aD.size+aE.size+aF.size≤9223372036854775807
    ·rw[if_pos c10]at H
     have f0:=eq_true c10
     have f1:=decide_eq_true c10
     try have f2:(9223372036854775807< aC.size+aD.size+aE.size+aF.size)=False:=eq_false (Nat.not_lt.2 c10)
     obtain⟨aK,bN,H⟩:=Option.bind_eq_some_iff.mp H
     try dsimp only at H
     have f3:=am bN
     clear bN
     by_cases bO:aC.size+aD.size+aE.size+aF.size+aK.size≤9223372036854775807
     ·rw[if_pos bO]at H
      have f4:=eq_true bO
      have f5:=decide_eq_true bO
      try have f6:(9223372036854775807< aC.size+aD.size+aE.size+aF.size+aK.size)=False:=eq_false (Nat.not_lt.2 bO)
      obtain⟨aL,bP,H⟩:=Option.bind_eq_some_iff.mp H
      try dsimp only at H
      have f7:=am bP
      clear bP
      by_cases bQ:aC.size+aD.size+aE.size+aF.size+aK.size+aL.size≤9223372036854775807
      ·rw[if_pos bQ]at H
       have f9:=eq_true bQ
       have gA:=decide_eq_true bQ
       try have gB:(9223372036854775807< aC.size+aD.size+aE.size+aF.size+aK.size+aL.size)=False:=eq_false (Nat.not_lt.2 bQ)
       by_cases bK:aM=0
       ·rw[if_pos bK]at H
        have bR:=beq_iff_eq.mpr bK
        have bS:=bne_eq_false_iff_eq.mpr bK
        clear bK
        obtain⟨⟨fQ,fR⟩,bT,H⟩:=Option.bind_eq_some_iff.mp H
        try dsimp only at H
        have gU:=am bT
        clear bT
        simp only[Option.some.injEq,Prod.mk.injEq]at H
        obtain⟨rfl,rfl⟩:=H
        go_enter Tryz.func8,Tryz.ntmps8
        try go_wp2_with (first|((with_reducible refine gate_dst (N:=1) rfl ?_);refine box_event ?hg (N:=1) ?hd (cs:=#[i6 aO,i6 aP,i6 aQ,i6 aM,i6 aR,i6 aS,i6 aT,i6 aU,i6 aV,.slice aY aN.length c0_9,.string aG,i6 aH]) (t:=28) ?hr ?_;(case hd=> rfl);(case hg=> rfl);(case hr=> (go_simp;done));intro aB hg g4 hbox hb;have aA:=am (hbox);have bI:=am (gsz hg HB.out);have bJ:=am (gsz hg HB.out);replace HB:=am (below_step (HB.out) hb);clear hb hbox hg;obtain⟨cO,cP,cQ,cR,cS,cT,cU,cV,cW,cX,bU,bV⟩:=bc12 aA.out;obtain⟨cY,cZ,c0,c1,dA,dB,dC,dD,dE,dF,bW,bX⟩:=bf12 aA.out)|((with_reducible refine gate_callee (f:=10) rfl ?_);refine goesL_ (some 8) rfl rfl Tryz.func10 (by kernel_rfl) rfl #[.agg #[i6 aO,i6 aP,i6 aQ,i6 aM,i6 aR,i6 aS,i6 aT,i6 aU,i6 aV,.slice aY aN.length c0_9,.string aG,i6 aH]] rfl (by(try simp only[l_m,l_c,l_n]);rfl) ?_;(with_reducible refine(ententeref13_Frame.calls k aO aP aQ aM aR aS aT aU aV _ _ aN aG aH bD _ ?side1 ?side2 A2.out).mono ?_);(case side1=> exact(Kd.C_below bB.out HB.out));(case side2=> exact bC.out);rintro e gV ⟨rfl,hb⟩;refine⟨_,rfl,?_⟩;replace aA:=am (blk_below aA.out hb);replace HB:=am (below_step (HB.out) hb);clear hb))
        have aI:=am (blk_drew aA.out)
        have aJ:=am (below_drew1 HB.out)
        clear aA HB
        have aA:=aI
        have HB:=aJ
        clear aI aJ
        refine start_ (n:=24) (S:=fun w'=> w'.cell? ⟨aB,0,none⟩=some (i6 aO)∧w'.cell? ⟨aB,1,none⟩=some (i6 aP)∧w'.cell? ⟨aB,2,none⟩=some (i6 aQ)∧w'.cell? ⟨aB,3,none⟩=some (i6 aM)∧w'.cell? ⟨aB,4,none⟩=some (i6 aR)∧w'.cell? ⟨aB,5,none⟩=some (i6 aS)∧w'.cell? ⟨aB,6,none⟩=some (i6 aT)∧w'.cell? ⟨aB,7,none⟩=some (i6 aU)∧w'.cell? ⟨aB,8,none⟩=some (i6 aV)∧w'.cell? ⟨aB,9,none⟩=some (.slice aY aN.length c0_9)∧w'.cell? ⟨aB,10,none⟩=some (.string aG)∧w'.cell? ⟨aB,11,none⟩=some (i6 aH)) (ds:=[]) (rl [0,24]) (by kernel_rfl) rfl rfl (bc12 aA.out) (fun hHeld=> ?_);refine with_tabW ententeref13_Encode.tab3 ententeref13_Encode.bits3 (fun HT_ HW_=> ?_)
        generalize gV.drew=g5 at aA HB hHeld ⊢
        refine pure_ (i:=0) (N:=some 10) (v:=?_) (a':=?_) (rl [1,23]) rfl rfl (any_of HT_.out (by kernel_rfl)) (fun _ _ _ h=> h) (Or.inl ⟨by rfl,?_⟩) ?_ ?_
        rotate_left
        ·intro w'
         go_simp
         with_reducible rfl
        rotate_left
        ·simp only[Act.put,l_a,l_z,l_s,i64_w,i32_w]
         rfl
        refine pure_ (i:=3) (N:=some 13) (v:=?_) (a':=?_) (rl [1,2,1,20]) rfl rfl (any_of HT_.out (by kernel_rfl)) (fun _ _ _ h=> h) (Or.inl ⟨by rfl,?_⟩) ?_ ?_
        rotate_left
        ·intro w'
         go_simp
         with_reducible rfl
        rotate_left
        ·simp only[Act.put,l_a,l_z,l_s,i64_w,i32_w]
         rfl
        refine pure_ (i:=7) (N:=some 17) (v:=?_) (a':=?_) (rl [1,2,1,3,1,16]) rfl rfl (any_of HT_.out (by kernel_rfl)) (fun _ _ _ h=> h) (Or.inl ⟨by rfl,?_⟩) ?_ ?_
        rotate_left
        ·intro w'
         go_simp
         with_reducible rfl
        rotate_left
        ·simp only[Act.put,l_a,l_z,l_s,i64_w,i32_w]
         rfl
        refine pure_ (i:=11) (N:=some 21) (v:=?_) (a':=?_) (rl [1,2,1,3,1,3,1,12]) rfl rfl (any_of HT_.out (by kernel_rfl)) (fun _ _ _ h=> h) (Or.inl ⟨by rfl,?_⟩) ?_ ?_
        rotate_left
        ·intro w'
         go_simp
         with_reducible rfl
        rotate_left
        ·simp only[Act.put,l_a,l_z,l_s,i64_w,i32_w]
         rfl
        refine pure_ (i:=15) (N:=some 25) (v:=?_) (a':=?_) (rl [1,2,1,3,1,3,1,3,1,8]) rfl rfl (any_of HT_.out (by kernel_rfl)) (fun _ _ _ h=> h) (Or.inl ⟨by rfl,?_⟩) ?_ ?_
        rotate_left
        ·intro w'
         go_simp
         with_reducible rfl
        rotate_left
        ·simp only[Act.put,l_a,l_z,l_s,i64_w,i32_w]
         rfl
        refine pure_ (i:=19) (N:=some 29) (v:=?_) (a':=?_) (rl [1,2,1,3,1,3,1,3,1,3,1,4]) rfl rfl (any_of HT_.out (by kernel_rfl)) (fun _ _ _ h=> h) (Or.inl ⟨by rfl,?_⟩) ?_ ?_
        rotate_left
        ·intro w'
         go_simp
         with_reducible rfl
        rotate_left
        ·simp only[Act.put,l_a,l_z,l_s,i64_w,i32_w]
         rfl
        refine take_ (i:=1) (N:=some 11) (v:=?_) (a':=?_) (rl [2,1,1,3,1,3,1,3,1,3,1,4]) rfl rfl (take_ofW HT_.out HW_.out (by kernel_rfl)) (fun _ _ _ h=> h) (Or.inl ⟨by rfl,?_⟩) hHeld ?_ ?_
        rotate_left
        ·rintro w' ⟨s0,s1,s2,s3,s4,s5,s6,s7,s8,s9,s10,s11⟩
         go_simp
         with_reducible rfl
        rotate_left
        ·simp only[Act.put,l_a,l_z,l_s,i64_w,i32_w]
         rfl
        refine take_ (i:=4) (N:=some 14) (v:=?_) (a':=?_) (rl [2,1,2,2,1,3,1,3,1,3,1,4]) rfl rfl (take_ofW HT_.out HW_.out (by kernel_rfl)) (fun _ _ _ h=> h) (Or.inl ⟨by rfl,?_⟩) hHeld ?_ ?_
        rotate_left
        ·rintro w' ⟨s0,s1,s2,s3,s4,s5,s6,s7,s8,s9,s10,s11⟩
         go_simp
         with_reducible rfl
        rotate_left
        ·simp only[Act.put,l_a,l_z,l_s,i64_w,i32_w]
         rfl
        refine take_ (i:=8) (N:=some 18) (v:=?_) (a':=?_) (rl [2,1,2,2,2,2,1,3,1,3,1,4]) rfl rfl (take_ofW HT_.out HW_.out (by kernel_rfl)) (fun _ _ _ h=> h) (Or.inl ⟨by rfl,?_⟩) hHeld ?_ ?_
        rotate_left
        ·rintro w' ⟨s0,s1,s2,s3,s4,s5,s6,s7,s8,s9,s10,s11⟩
         go_simp
         with_reducible rfl
        rotate_left
        ·simp only[Act.put,l_a,l_z,l_s,i64_w,i32_w]
         rfl
        refine take_ (i:=12) (N:=some 22) (v:=?_) (a':=?_) (rl [2,1,2,2,2,2,2,2,1,3,1,4]) rfl rfl (take_ofW HT_.out HW_.out (by kernel_rfl)) (fun _ _ _ h=> h) (Or.inl ⟨by rfl,?_⟩) hHeld ?_ ?_
        rotate_left
        ·rintro w' ⟨s0,s1,s2,s3,s4,s5,s6,s7,s8,s9,s10,s11⟩
         go_simp
         with_reducible rfl
        rotate_left
        ·simp only[Act.put,l_a,l_z,l_s,i64_w,i32_w]
         rfl
        refine take_ (i:=16) (N:=some 26) (v:=?_) (a':=?_) (rl [2,1,2,2,2,2,2,2,2,2,1,4]) rfl rfl (take_ofW HT_.out HW_.out (by kernel_rfl)) (fun _ _ _ h=> h) (Or.inl ⟨by rfl,?_⟩) hHeld ?_ ?_
        rotate_left
        ·rintro w' ⟨s0,s1,s2,s3,s4,s5,s6,s7,s8,s9,s10,s11⟩
         go_simp
         with_reducible rfl
        rotate_left
        ·simp only[Act.put,l_a,l_z,l_s,i64_w,i32_w]
         rfl
        refine take_ (i:=20) (N:=some 30) (v:=?_) (a':=?_) (rl [2,1,2,2,2,2,2,2,2,2,2,3]) rfl rfl (take_ofW HT_.out HW_.out (by kernel_rfl)) (fun _ _ _ h=> h) (Or.inl ⟨by rfl,?_⟩) hHeld ?_ ?_
        rotate_left
        ·rintro w' ⟨s0,s1,s2,s3,s4,s5,s6,s7,s8,s9,s10,s11⟩
         go_simp
         with_reducible rfl
        rotate_left
        ·simp only[Act.put,l_a,l_z,l_s,i64_w,i32_w]
         rfl
        refine one_ (i:=2) (N:=some 12) (rl [5,2,2,2,2,2,2,2,2,3]) rfl rfl (one_of HT_.out (by kernel_rfl)) (by decide) (fun K hK=> ?_)
        refine goes_ Tryz.func22 (by kernel_rfl) rfl #[i6 aO] (by rfl) rfl rfl (by(try simp only[l_m,l_c,l_n]);rfl) ?_
        with_reducible refine(ententeref13_number.calls k aO aC _ A4.out).mono ?_
        rintro e g6 ⟨rfl,hb⟩
        refine⟨_,rfl,?_⟩
        have aI:=am (blk_below aA.out hb)
        have aJ:=am (below_step (HB.out) hb)
        clear aA HB
        have aA:=aI
        have HB:=aJ
        clear aI aJ
        clear hb
        refine hK.out _ _ (bc12 aA.out) (fun hHeld=> ?_)
        clear hK K
        refine norm_ (a':=?_) ?_ ?_
        rotate_left
        ·show Act.put _ (some 12) _=_
         simp only[Act.put,l_a,l_z,l_s,i64_w,i32_w]
         rfl
        refine one_ (i:=5) (N:=some 15) (rl [6,1,2,2,2,2,2,2,2,3]) rfl rfl (one_of HT_.out (by kernel_rfl)) (by decide) (fun K hK=> ?_)
        refine goes_ Tryz.func22 (by kernel_rfl) rfl #[i6 aP] (by rfl) rfl rfl (by(try simp only[l_m,l_c,l_n]);rfl) ?_
        with_reducible refine(ententeref13_number.calls k aP aD _ A5.out).mono ?_
        rintro e g7 ⟨rfl,hb⟩
        refine⟨_,rfl,?_⟩
        have aI:=am (blk_below aA.out hb)
        have aJ:=am (below_step (HB.out) hb)
        clear aA HB
        have aA:=aI
        have HB:=aJ
        clear aI aJ
        clear hb
        refine hK.out _ _ (bc12 aA.out) (fun hHeld=> ?_)
        clear hK K
        refine norm_ (a':=?_) ?_ ?_
        rotate_left
        ·show Act.put _ (some 15) _=_
         simp only[Act.put,l_a,l_z,l_s,i64_w,i32_w]
         rfl
        refine pure_ (i:=6) (N:=some 16) (v:=?_) (a':=?_) (rl [9,2,2,2,2,2,2,3]) rfl rfl (any_of HT_.out (by kernel_rfl)) (fun _ _ _ h=> h) (Or.inl ⟨by rfl,?_⟩) ?_ ?_
        rotate_left
        ·intro w'
         go_simp
         with_reducible rfl
        rotate_left
        ·simp only[Act.put,l_a,l_z,l_s,i64_w,i32_w]
         rfl
        refine one_ (i:=9) (N:=some 19) (rl [10,1,2,2,2,2,2,3]) rfl rfl (one_of HT_.out (by kernel_rfl)) (by decide) (fun K hK=> ?_)
        refine goes_ Tryz.func22 (by kernel_rfl) rfl #[i6 aQ] (by rfl) rfl rfl (by(try simp only[l_m,l_c,l_n]);rfl) ?_
        with_reducible refine(ententeref13_number.calls k aQ aE _ A7.out).mono ?_
        rintro e g8 ⟨rfl,hb⟩
        refine⟨_,rfl,?_⟩
        have aI:=am (blk_below aA.out hb)
        have aJ:=am (below_step (HB.out) hb)
        clear aA HB
        have aA:=aI
        have HB:=aJ
        clear aI aJ
        clear hb
        refine hK.out _ _ (bc12 aA.out) (fun hHeld=> ?_)
        clear hK K
        refine norm_ (a':=?_) ?_ ?_
        rotate_left
        ·show Act.put _ (some 19) _=_
         simp only[Act.put,l_a,l_z,l_s,i64_w,i32_w]
         rfl
        refine pure_ (i:=10) (N:=some 20) (v:=?_) (a':=?_) (rl [13,2,2,2,2,3]) rfl rfl (any_of HT_.out (by kernel_rfl)) (fun _ _ _ h=> h) (Or.inl ⟨by rfl,?_⟩) ?_ ?_
        rotate_left
        ·intro w'
         go_simp
         with_reducible rfl
        rotate_left
        ·simp only[Act.put,l_a,l_z,l_s,i64_w,i32_w]
         rfl
        refine one_ (i:=13) (N:=some 23) (rl [14,1,2,2,2,3]) rfl rfl (one_of HT_.out (by kernel_rfl)) (by decide) (fun K hK=> ?_)
        refine goes_ Tryz.func22 (by kernel_rfl) rfl #[i6 aM] (by rfl) rfl rfl (by(try simp only[l_m,l_c,l_n]);rfl) ?_
        with_reducible refine(ententeref13_number.calls k aM aF _ A9.out).mono ?_
        rintro e g9 ⟨rfl,hb⟩
        refine⟨_,rfl,?_⟩
        have aI:=am (blk_below aA.out hb)
        have aJ:=am (below_step (HB.out) hb)
        clear aA HB
        have aA:=aI
        have HB:=aJ
        clear aI aJ
        clear hb
        refine hK.out _ _ (bc12 aA.out) (fun hHeld=> ?_)
        clear hK K
        refine norm_ (a':=?_) ?_ ?_
        rotate_left
        ·show Act.put _ (some 23) _=_
         simp only[Act.put,l_a,l_z,l_s,i64_w,i32_w]
         rfl
        refine pure_ (i:=14) (N:=some 24) (v:=?_) (a':=?_) (rl [17,2,2,3]) rfl rfl (any_of HT_.out (by kernel_rfl)) (fun _ _ _ h=> h) (Or.inl ⟨by rfl,?_⟩) ?_ ?_
        rotate_left
        ·intro w'
         go_simp
         with_reducible rfl
        rotate_left
        ·simp only[Act.put,l_a,l_z,l_s,i64_w,i32_w]
         rfl
        refine one_ (i:=17) (N:=some 27) (rl [18,1,2,3]) rfl rfl (one_of HT_.out (by kernel_rfl)) (by decide) (fun K hK=> ?_)
        refine goes_ Tryz.func22 (by kernel_rfl) rfl #[i6 aR] (by rfl) rfl rfl (by(try simp only[l_m,l_c,l_n]);rfl) ?_
        with_reducible refine(ententeref13_number.calls k aR aK _ f3.out).mono ?_
        rintro e hA ⟨rfl,hb⟩
        refine⟨_,rfl,?_⟩
        have aI:=am (blk_below aA.out hb)
        have aJ:=am (below_step (HB.out) hb)
        clear aA HB
        have aA:=aI
        have HB:=aJ
        clear aI aJ
        clear hb
        refine hK.out _ _ (bc12 aA.out) (fun hHeld=> ?_)
        clear hK K
        refine norm_ (a':=?_) ?_ ?_
        rotate_left
        ·show Act.put _ (some 27) _=_
         simp only[Act.put,l_a,l_z,l_s,i64_w,i32_w]
         rfl
        refine pure_ (i:=18) (N:=some 28) (v:=?_) (a':=?_) (rl [21,3]) rfl rfl (any_of HT_.out (by kernel_rfl)) (fun _ _ _ h=> h) (Or.inl ⟨by rfl,?_⟩) ?_ ?_
        rotate_left
        ·intro w'
         go_simp
         with_reducible rfl
        rotate_left
        ·simp only[Act.put,l_a,l_z,l_s,i64_w,i32_w]
         rfl
        refine one_ (i:=21) (N:=some 31) (rl [22,2]) rfl rfl (one_of HT_.out (by kernel_rfl)) (by decide) (fun K hK=> ?_)
        refine goes_ Tryz.func22 (by kernel_rfl) rfl #[i6 aS] (by rfl) rfl rfl (by(try simp only[l_m,l_c,l_n]);rfl) ?_
        with_reducible refine(ententeref13_number.calls k aS aL _ f7.out).mono ?_
        rintro e hB ⟨rfl,hb⟩
        refine⟨_,rfl,?_⟩
        have aI:=am (blk_below aA.out hb)
        have aJ:=am (below_step (HB.out) hb)
        clear aA HB
        have aA:=aI
        have HB:=aJ
        clear aI aJ
        clear hb
        refine hK.out _ _ (bc12 aA.out) (fun hHeld=> ?_)
        clear hK K
        refine norm_ (a':=?_) ?_ ?_
        rotate_left
        ·show Act.put _ (some 31) _=_
         simp only[Act.put,l_a,l_z,l_s,i64_w,i32_w]
         rfl
        refine pure_ (i:=22) (N:=some 32) (v:=?_) (a':=?_) (rl [23,1]) rfl rfl (any_of HT_.out (by kernel_rfl)) (fun _ _ _ h=> h) (Or.inl ⟨by rfl,?_⟩) ?_ ?_
        rotate_left
        ·intro w'
         go_simp
         with_reducible rfl
        rotate_left
        ·simp only[Act.put,l_a,l_z,l_s,i64_w,i32_w]
         rfl
        refine pure_ (i:=23) (N:=some 4) (v:=?_) (a':=?_) (rl [24]) rfl rfl (any_of HT_.out (by kernel_rfl)) (fun _ _ _ h=> h) (Or.inl ⟨by rfl,?_⟩) ?_ ?_
        rotate_left
        ·intro w'
         go_simp
         with_reducible rfl
        rotate_left
        ·simp only[Act.put,l_a,l_z,l_s,i64_w,i32_w]
         rfl
        refine done_ (done_of HT_.out (by kernel_rfl)) ?_
        obtain⟨dG,dH,dI,dJ,dK,dL,dM,dN,dO,dP,bY,bZ⟩:=bc12 aA.out
        obtain⟨dQ,dR,dS,dT,dU,dV,dW,dX,dY,dZ,b0,b1⟩:=bf12 aA.out
        try go_wp2_with (first|((with_reducible refine gate_callee (f:=25) rfl ?_);refine goesL_ (some 63) rfl rfl Tryz.func25 (by kernel_rfl) rfl #[i6 1,.string (((((aC++aD)++aE)++aF)++aK)++aL)] rfl (by(try simp only[l_m,l_c,l_n]);rfl) ?_;(with_reducible refine(ententeref02_Seal.calls k 1 (((((aC++aD)++aE)++aF)++aK)++aL) fQ fR _ gU.out).mono ?_);rintro e hC ⟨rfl,hb⟩;refine⟨_,rfl,?_⟩;replace aA:=am (blk_below aA.out hb);replace HB:=am (below_step (HB.out) hb);clear hb))
        go_ret2
        exact⟨by rfl,HB.out⟩
       ·rw[if_neg bK]at H
        have bR:=beq_eq_false_iff_ne.mpr bK
        have bS:=bne_iff_ne.mpr bK
        obtain⟨⟨bL,fS⟩,b2,H⟩:=Option.bind_eq_some_iff.mp H
        try dsimp only at H
        have gW:=am b2
        clear b2
        obtain⟨aW,b3,H⟩:=Option.bind_eq_some_iff.mp H
        try dsimp only at H
        have gX:=am b3
        clear b3
        by_cases b4:aC.size+aD.size+aE.size+aF.size+aK.size+aL.size+aW.size≤9223372036854775807
        ·rw[if_pos b4]at H
         have gC:=eq_true b4
         have gD:=decide_eq_true b4
         try have gE:(9223372036854775807< aC.size+aD.size+aE.size+aF.size+aK.size+aL.size+aW.size)=False:=eq_false (Nat.not_lt.2 b4)
         obtain⟨aX,b5,H⟩:=Option.bind_eq_some_iff.mp H
         try dsimp only at H
         have gY:=am b5
         clear b5
         by_cases b6:aC.size+aD.size+aE.size+aF.size+aK.size+aL.size+aW.size+aX.size≤9223372036854775807
         ·rw[if_pos b6]at H
          have gF:=eq_true b6
          have gG:=decide_eq_true b6
          try have gH:(9223372036854775807< aC.size+aD.size+aE.size+aF.size+aK.size+aL.size+aW.size+aX.size)=False:=eq_false (Nat.not_lt.2 b6)
          obtain⟨aZ,b7,H⟩:=Option.bind_eq_some_iff.mp H
          try dsimp only at H
          have gZ:=am b7
          clear b7
          by_cases b8:aC.size+aD.size+aE.size+aF.size+aK.size+aL.size+aW.size+aX.size+aZ.size≤9223372036854775807
          ·rw[if_pos b8]at H
           have gI:=eq_true b8
           have gJ:=decide_eq_true b8
           try have gK:(9223372036854775807< aC.size+aD.size+aE.size+aF.size+aK.size+aL.size+aW.size+aX.size+aZ.size)=False:=eq_false (Nat.not_lt.2 b8)
           obtain⟨bA,b9,H⟩:=Option.bind_eq_some_iff.mp H
           try dsimp only at H
           have g0:=am b9
           clear b9
           by_cases cA:aC.size+aD.size+aE.size+aF.size+aK.size+aL.size+aW.size+aX.size+aZ.size+bA.size≤9223372036854775807
           ·rw[if_pos cA]at H
            have gL:=eq_true cA
            have gM:=decide_eq_true cA
            try have gN:(9223372036854775807< aC.size+aD.size+aE.size+aF.size+aK.size+aL.size+aW.size+aX.size+aZ.size+bA.size)=False:=eq_false (Nat.not_lt.2 cA)
            obtain⟨⟨fT,fU⟩,cB,H⟩:=Option.bind_eq_some_iff.mp H
            try dsimp only at H
            have g1:=am cB
            clear cB
            simp only[Option.some.injEq,Prod.mk.injEq]at H
            obtain⟨rfl,rfl⟩:=H
            go_enter Tryz.func8,Tryz.ntmps8
            try go_wp2_with (first|((with_reducible refine gate_dst (N:=1) rfl ?_);refine box_event ?hg (N:=1) ?hd (cs:=#[i6 aO,i6 aP,i6 aQ,i6 aM,i6 aR,i6 aS,i6 aT,i6 aU,i6 aV,.slice aY aN.length c0_9,.string aG,i6 aH]) (t:=28) ?hr ?_;(case hd=> rfl);(case hg=> rfl);(case hr=> (go_simp;done));intro aB hg hD hbox hb;have aA:=am (hbox);have bI:=am (gsz hg HB.out);have bJ:=am (gsz hg HB.out);replace HB:=am (below_step (HB.out) hb);clear hb hbox hg;obtain⟨d0,d1,d2,d3,d4,d5,d6,d7,d8,d9,cC,cD⟩:=bc12 aA.out;obtain⟨eA,eB,eC,eD,eE,eF,eG,eH,eI,eJ,cE,cF⟩:=bf12 aA.out)|((with_reducible refine gate_callee (f:=10) rfl ?_);refine goesL_ (some 8) rfl rfl Tryz.func10 (by kernel_rfl) rfl #[.agg #[i6 aO,i6 aP,i6 aQ,i6 aM,i6 aR,i6 aS,i6 aT,i6 aU,i6 aV,.slice aY aN.length c0_9,.string aG,i6 aH]] rfl (by(try simp only[l_m,l_c,l_n]);rfl) ?_;(with_reducible refine(ententeref13_Frame.calls k aO aP aQ aM aR aS aT aU aV _ _ aN aG aH bD _ ?side1 ?side2 A2.out).mono ?_);(case side1=> exact(Kd.C_below bB.out HB.out));(case side2=> exact bC.out);rintro e g2 ⟨rfl,hb⟩;refine⟨_,rfl,?_⟩;replace aA:=am (blk_below aA.out hb);replace HB:=am (below_step (HB.out) hb);clear hb))
            have aI:=am (blk_drew aA.out)
            have aJ:=am (below_drew1 HB.out)
            clear aA HB
            have aA:=aI
            have HB:=aJ
            clear aI aJ
            refine start_ (n:=24) (S:=fun w'=> w'.cell? ⟨aB,0,none⟩=some (i6 aO)∧w'.cell? ⟨aB,1,none⟩=some (i6 aP)∧w'.cell? ⟨aB,2,none⟩=some (i6 aQ)∧w'.cell? ⟨aB,3,none⟩=some (i6 aM)∧w'.cell? ⟨aB,4,none⟩=some (i6 aR)∧w'.cell? ⟨aB,5,none⟩=some (i6 aS)∧w'.cell? ⟨aB,6,none⟩=some (i6 aT)∧w'.cell? ⟨aB,7,none⟩=some (i6 aU)∧w'.cell? ⟨aB,8,none⟩=some (i6 aV)∧w'.cell? ⟨aB,9,none⟩=some (.slice aY aN.length c0_9)∧w'.cell? ⟨aB,10,none⟩=some (.string aG)∧w'.cell? ⟨aB,11,none⟩=some (i6 aH)) (ds:=[]) (rl [0,24]) (by kernel_rfl) rfl rfl (bc12 aA.out) (fun hHeld=> ?_);refine with_tabW ententeref13_Encode.tab3 ententeref13_Encode.bits3 (fun HT_ HW_=> ?_)
            generalize g2.drew=hE at aA HB hHeld ⊢
            refine pure_ (i:=0) (N:=some 10) (v:=?_) (a':=?_) (rl [1,23]) rfl rfl (any_of HT_.out (by kernel_rfl)) (fun _ _ _ h=> h) (Or.inl ⟨by rfl,?_⟩) ?_ ?_
            rotate_left
            ·intro w'
             go_simp
             with_reducible rfl
            rotate_left
            ·simp only[Act.put,l_a,l_z,l_s,i64_w,i32_w]
             rfl
            refine pure_ (i:=3) (N:=some 13) (v:=?_) (a':=?_) (rl [1,2,1,20]) rfl rfl (any_of HT_.out (by kernel_rfl)) (fun _ _ _ h=> h) (Or.inl ⟨by rfl,?_⟩) ?_ ?_
            rotate_left
            ·intro w'
             go_simp
             with_reducible rfl
            rotate_left
            ·simp only[Act.put,l_a,l_z,l_s,i64_w,i32_w]
             rfl
            refine pure_ (i:=7) (N:=some 17) (v:=?_) (a':=?_) (rl [1,2,1,3,1,16]) rfl rfl (any_of HT_.out (by kernel_rfl)) (fun _ _ _ h=> h) (Or.inl ⟨by rfl,?_⟩) ?_ ?_
            rotate_left
            ·intro w'
             go_simp
             with_reducible rfl
            rotate_left
            ·simp only[Act.put,l_a,l_z,l_s,i64_w,i32_w]
             rfl
            refine pure_ (i:=11) (N:=some 21) (v:=?_) (a':=?_) (rl [1,2,1,3,1,3,1,12]) rfl rfl (any_of HT_.out (by kernel_rfl)) (fun _ _ _ h=> h) (Or.inl ⟨by rfl,?_⟩) ?_ ?_
            rotate_left
            ·intro w'
             go_simp
             with_reducible rfl
            rotate_left
            ·simp only[Act.put,l_a,l_z,l_s,i64_w,i32_w]
             rfl
            refine pure_ (i:=15) (N:=some 25) (v:=?_) (a':=?_) (rl [1,2,1,3,1,3,1,3,1,8]) rfl rfl (any_of HT_.out (by kernel_rfl)) (fun _ _ _ h=> h) (Or.inl ⟨by rfl,?_⟩) ?_ ?_
            rotate_left
            ·intro w'
             go_simp
             with_reducible rfl
            rotate_left
            ·simp only[Act.put,l_a,l_z,l_s,i64_w,i32_w]
             rfl
            refine pure_ (i:=19) (N:=some 29) (v:=?_) (a':=?_) (rl [1,2,1,3,1,3,1,3,1,3,1,4]) rfl rfl (any_of HT_.out (by kernel_rfl)) (fun _ _ _ h=> h) (Or.inl ⟨by rfl,?_⟩) ?_ ?_
            rotate_left
            ·intro w'
             go_simp
             with_reducible rfl
            rotate_left
            ·simp only[Act.put,l_a,l_z,l_s,i64_w,i32_w]
             rfl
            refine take_ (i:=1) (N:=some 11) (v:=?_) (a':=?_) (rl [2,1,1,3,1,3,1,3,1,3,1,4]) rfl rfl (take_ofW HT_.out HW_.out (by kernel_rfl)) (fun _ _ _ h=> h) (Or.inl ⟨by rfl,?_⟩) hHeld ?_ ?_
            rotate_left
            ·rintro w' ⟨s0,s1,s2,s3,s4,s5,s6,s7,s8,s9,s10,s11⟩
             go_simp
             with_reducible rfl
            rotate_left
            ·simp only[Act.put,l_a,l_z,l_s,i64_w,i32_w]
             rfl
            refine take_ (i:=4) (N:=some 14) (v:=?_) (a':=?_) (rl [2,1,2,2,1,3,1,3,1,3,1,4]) rfl rfl (take_ofW HT_.out HW_.out (by kernel_rfl)) (fun _ _ _ h=> h) (Or.inl ⟨by rfl,?_⟩) hHeld ?_ ?_
            rotate_left
            ·rintro w' ⟨s0,s1,s2,s3,s4,s5,s6,s7,s8,s9,s10,s11⟩
             go_simp
             with_reducible rfl
            rotate_left
            ·simp only[Act.put,l_a,l_z,l_s,i64_w,i32_w]
             rfl
            refine take_ (i:=8) (N:=some 18) (v:=?_) (a':=?_) (rl [2,1,2,2,2,2,1,3,1,3,1,4]) rfl rfl (take_ofW HT_.out HW_.out (by kernel_rfl)) (fun _ _ _ h=> h) (Or.inl ⟨by rfl,?_⟩) hHeld ?_ ?_
            rotate_left
            ·rintro w' ⟨s0,s1,s2,s3,s4,s5,s6,s7,s8,s9,s10,s11⟩
             go_simp
             with_reducible rfl
            rotate_left
            ·simp only[Act.put,l_a,l_z,l_s,i64_w,i32_w]
             rfl
            refine take_ (i:=12) (N:=some 22) (v:=?_) (a':=?_) (rl [2,1,2,2,2,2,2,2,1,3,1,4]) rfl rfl (take_ofW HT_.out HW_.out (by kernel_rfl)) (fun _ _ _ h=> h) (Or.inl ⟨by rfl,?_⟩) hHeld ?_ ?_
            rotate_left
            ·rintro w' ⟨s0,s1,s2,s3,s4,s5,s6,s7,s8,s9,s10,s11⟩
             go_simp
             with_reducible rfl
            rotate_left
            ·simp only[Act.put,l_a,l_z,l_s,i64_w,i32_w]
             rfl
            refine take_ (i:=16) (N:=some 26) (v:=?_) (a':=?_) (rl [2,1,2,2,2,2,2,2,2,2,1,4]) rfl rfl (take_ofW HT_.out HW_.out (by kernel_rfl)) (fun _ _ _ h=> h) (Or.inl ⟨by rfl,?_⟩) hHeld ?_ ?_
            rotate_left
            ·rintro w' ⟨s0,s1,s2,s3,s4,s5,s6,s7,s8,s9,s10,s11⟩
             go_simp
             with_reducible rfl
            rotate_left
            ·simp only[Act.put,l_a,l_z,l_s,i64_w,i32_w]
             rfl
            refine take_ (i:=20) (N:=some 30) (v:=?_) (a':=?_) (rl [2,1,2,2,2,2,2,2,2,2,2,3]) rfl rfl (take_ofW HT_.out HW_.out (by kernel_rfl)) (fun _ _ _ h=> h) (Or.inl ⟨by rfl,?_⟩) hHeld ?_ ?_
            rotate_left
            ·rintro w' ⟨s0,s1,s2,s3,s4,s5,s6,s7,s8,s9,s10,s11⟩
             go_simp
             with_reducible rfl
            rotate_left
            ·simp only[Act.put,l_a,l_z,l_s,i64_w,i32_w]
             rfl
            refine one_ (i:=2) (N:=some 12) (rl [5,2,2,2,2,2,2,2,2,3]) rfl rfl (one_of HT_.out (by kernel_rfl)) (by decide) (fun K hK=> ?_)
            refine goes_ Tryz.func22 (by kernel_rfl) rfl #[i6 aO] (by rfl) rfl rfl (by(try simp only[l_m,l_c,l_n]);rfl) ?_
            with_reducible refine(ententeref13_number.calls k aO aC _ A4.out).mono ?_
            rintro e hF ⟨rfl,hb⟩
            refine⟨_,rfl,?_⟩
            have aI:=am (blk_below aA.out hb)
            have aJ:=am (below_step (HB.out) hb)
            clear aA HB
            have aA:=aI
            have HB:=aJ
            clear aI aJ
            clear hb
            refine hK.out _ _ (bc12 aA.out) (fun hHeld=> ?_)
            clear hK K
            refine norm_ (a':=?_) ?_ ?_
            rotate_left
            ·show Act.put _ (some 12) _=_
             simp only[Act.put,l_a,l_z,l_s,i64_w,i32_w]
             rfl
            refine one_ (i:=5) (N:=some 15) (rl [6,1,2,2,2,2,2,2,2,3]) rfl rfl (one_of HT_.out (by kernel_rfl)) (by decide) (fun K hK=> ?_)
            refine goes_ Tryz.func22 (by kernel_rfl) rfl #[i6 aP] (by rfl) rfl rfl (by(try simp only[l_m,l_c,l_n]);rfl) ?_
            with_reducible refine(ententeref13_number.calls k aP aD _ A5.out).mono ?_
            rintro e hG ⟨rfl,hb⟩
            refine⟨_,rfl,?_⟩
            have aI:=am (blk_below aA.out hb)
            have aJ:=am (below_step (HB.out) hb)
            clear aA HB
            have aA:=aI
            have HB:=aJ
            clear aI aJ
            clear hb
            refine hK.out _ _ (bc12 aA.out) (fun hHeld=> ?_)
            clear hK K
            refine norm_ (a':=?_) ?_ ?_
            rotate_left
            ·show Act.put _ (some 15) _=_
             simp only[Act.put,l_a,l_z,l_s,i64_w,i32_w]
             rfl
            refine pure_ (i:=6) (N:=some 16) (v:=?_) (a':=?_) (rl [9,2,2,2,2,2,2,3]) rfl rfl (any_of HT_.out (by kernel_rfl)) (fun _ _ _ h=> h) (Or.inl ⟨by rfl,?_⟩) ?_ ?_
            rotate_left
            ·intro w'
             go_simp
             with_reducible rfl
            rotate_left
            ·simp only[Act.put,l_a,l_z,l_s,i64_w,i32_w]
             rfl
            refine one_ (i:=9) (N:=some 19) (rl [10,1,2,2,2,2,2,3]) rfl rfl (one_of HT_.out (by kernel_rfl)) (by decide) (fun K hK=> ?_)
            refine goes_ Tryz.func22 (by kernel_rfl) rfl #[i6 aQ] (by rfl) rfl rfl (by(try simp only[l_m,l_c,l_n]);rfl) ?_
            with_reducible refine(ententeref13_number.calls k aQ aE _ A7.out).mono ?_
            rintro e hH ⟨rfl,hb⟩
            refine⟨_,rfl,?_⟩
            have aI:=am (blk_below aA.out hb)
            have aJ:=am (below_step (HB.out) hb)
            clear aA HB
            have aA:=aI
            have HB:=aJ
            clear aI aJ
            clear hb
            refine hK.out _ _ (bc12 aA.out) (fun hHeld=> ?_)
            clear hK K
            refine norm_ (a':=?_) ?_ ?_
            rotate_left
            ·show Act.put _ (some 19) _=_
             simp only[Act.put,l_a,l_z,l_s,i64_w,i32_w]
             rfl
            refine pure_ (i:=10) (N:=some 20) (v:=?_) (a':=?_) (rl [13,2,2,2,2,3]) rfl rfl (any_of HT_.out (by kernel_rfl)) (fun _ _ _ h=> h) (Or.inl ⟨by rfl,?_⟩) ?_ ?_
            rotate_left
            ·intro w'
             go_simp
             with_reducible rfl
            rotate_left
            ·simp only[Act.put,l_a,l_z,l_s,i64_w,i32_w]
             rfl
            refine one_ (i:=13) (N:=some 23) (rl [14,1,2,2,2,3]) rfl rfl (one_of HT_.out (by kernel_rfl)) (by decide) (fun K hK=> ?_)
            refine goes_ Tryz.func22 (by kernel_rfl) rfl #[i6 aM] (by rfl) rfl rfl (by(try simp only[l_m,l_c,l_n]);rfl) ?_
            with_reducible refine(ententeref13_number.calls k aM aF _ A9.out).mono ?_
            rintro e hI ⟨rfl,hb⟩
            refine⟨_,rfl,?_⟩
            have aI:=am (blk_below aA.out hb)
            have aJ:=am (below_step (HB.out) hb)
            clear aA HB
            have aA:=aI
            have HB:=aJ
            clear aI aJ
            clear hb
            refine hK.out _ _ (bc12 aA.out) (fun hHeld=> ?_)
            clear hK K
            refine norm_ (a':=?_) ?_ ?_
            rotate_left
            ·show Act.put _ (some 23) _=_
             simp only[Act.put,l_a,l_z,l_s,i64_w,i32_w]
             rfl
            refine pure_ (i:=14) (N:=some 24) (v:=?_) (a':=?_) (rl [17,2,2,3]) rfl rfl (any_of HT_.out (by kernel_rfl)) (fun _ _ _ h=> h) (Or.inl ⟨by rfl,?_⟩) ?_ ?_
            rotate_left
            ·intro w'
             go_simp
             with_reducible rfl
            rotate_left
            ·simp only[Act.put,l_a,l_z,l_s,i64_w,i32_w]
             rfl
            refine one_ (i:=17) (N:=some 27) (rl [18,1,2,3]) rfl rfl (one_of HT_.out (by kernel_rfl)) (by decide) (fun K hK=> ?_)
            refine goes_ Tryz.func22 (by kernel_rfl) rfl #[i6 aR] (by rfl) rfl rfl (by(try simp only[l_m,l_c,l_n]);rfl) ?_
            with_reducible refine(ententeref13_number.calls k aR aK _ f3.out).mono ?_
            rintro e hJ ⟨rfl,hb⟩
            refine⟨_,rfl,?_⟩
            have aI:=am (blk_below aA.out hb)
            have aJ:=am (below_step (HB.out) hb)
            clear aA HB
            have aA:=aI
            have HB:=aJ
            clear aI aJ
            clear hb
            refine hK.out _ _ (bc12 aA.out) (fun hHeld=> ?_)
            clear hK K
            refine norm_ (a':=?_) ?_ ?_
            rotate_left
            ·show Act.put _ (some 27) _=_
             simp only[Act.put,l_a,l_z,l_s,i64_w,i32_w]
             rfl
            refine pure_ (i:=18) (N:=some 28) (v:=?_) (a':=?_) (rl [21,3]) rfl rfl (any_of HT_.out (by kernel_rfl)) (fun _ _ _ h=> h) (Or.inl ⟨by rfl,?_⟩) ?_ ?_
            rotate_left
            ·intro w'
             go_simp
             with_reducible rfl
            rotate_left
            ·simp only[Act.put,l_a,l_z,l_s,i64_w,i32_w]
             rfl
            refine one_ (i:=21) (N:=some 31) (rl [22,2]) rfl rfl (one_of HT_.out (by kernel_rfl)) (by decide) (fun K hK=> ?_)
            refine goes_ Tryz.func22 (by kernel_rfl) rfl #[i6 aS] (by rfl) rfl rfl (by(try simp only[l_m,l_c,l_n]);rfl) ?_
            with_reducible refine(ententeref13_number.calls k aS aL _ f7.out).mono ?_
            rintro e hL ⟨rfl,hb⟩
            refine⟨_,rfl,?_⟩
            have aI:=am (blk_below aA.out hb)
            have aJ:=am (below_step (HB.out) hb)
            clear aA HB
            have aA:=aI
            have HB:=aJ
            clear aI aJ
            clear hb
            refine hK.out _ _ (bc12 aA.out) (fun hHeld=> ?_)
            clear hK K
            refine norm_ (a':=?_) ?_ ?_
            rotate_left
            ·show Act.put _ (some 31) _=_
             simp only[Act.put,l_a,l_z,l_s,i64_w,i32_w]
             rfl
            refine pure_ (i:=22) (N:=some 32) (v:=?_) (a':=?_) (rl [23,1]) rfl rfl (any_of HT_.out (by kernel_rfl)) (fun _ _ _ h=> h) (Or.inl ⟨by rfl,?_⟩) ?_ ?_
            rotate_left
            ·intro w'
             go_simp
             with_reducible rfl
            rotate_left
            ·simp only[Act.put,l_a,l_z,l_s,i64_w,i32_w]
             rfl
            refine pure_ (i:=23) (N:=some 4) (v:=?_) (a':=?_) (rl [24]) rfl rfl (any_of HT_.out (by kernel_rfl)) (fun _ _ _ h=> h) (Or.inl ⟨by rfl,?_⟩) ?_ ?_
            rotate_left
            ·intro w'
             go_simp
             with_reducible rfl
            rotate_left
            ·simp only[Act.put,l_a,l_z,l_s,i64_w,i32_w]
             rfl
            refine done_ (done_of HT_.out (by kernel_rfl)) ?_
            obtain⟨eK,eL,eM,eN,eO,eP,eQ,eR,eS,eT,cG,cH⟩:=bc12 aA.out
            obtain⟨eU,eV,eW,eX,eY,eZ,e0,e1,e2,e3,cI,cJ⟩:=bf12 aA.out
            try go_wp2_with (first|((with_reducible refine gate_callee (f:=23) rfl ?_);refine goesL_ (some 40) rfl rfl Tryz.func23 (by kernel_rfl) rfl #[.agg #[i6 aU,i6 aV,.slice aY aN.length c0_9]] rfl (by(try simp only[l_m,l_c,l_n]);rfl) ?_;(with_reducible refine(ententeref03_Show.calls k aU aV _ _ aN bL fS _ ?side1 ?side2 gW.out).mono ?_);(case side1=> exact(Kd.C_below bB.out HB.out));(case side2=> exact bC.out);rintro e g3 ⟨rfl,hb⟩;refine⟨_,rfl,?_⟩;replace aA:=am (blk_below aA.out hb);replace HB:=am (below_step (HB.out) hb);clear hb))
            have aI:=am (blk_drew aA.out)
            have aJ:=am (below_drew1 HB.out)
            clear aA HB
            have aA:=aI
            have HB:=aJ
            clear aI aJ
            refine start_ (n:=20) (S:=fun w'=> w'.cell? ⟨aB,0,none⟩=some (i6 aO)∧w'.cell? ⟨aB,1,none⟩=some (i6 aP)∧w'.cell? ⟨aB,2,none⟩=some (i6 aQ)∧w'.cell? ⟨aB,3,none⟩=some (i6 aM)∧w'.cell? ⟨aB,4,none⟩=some (i6 aR)∧w'.cell? ⟨aB,5,none⟩=some (i6 aS)∧w'.cell? ⟨aB,6,none⟩=some (i6 aT)∧w'.cell? ⟨aB,7,none⟩=some (i6 aU)∧w'.cell? ⟨aB,8,none⟩=some (i6 aV)∧w'.cell? ⟨aB,9,none⟩=some (.slice aY aN.length c0_9)∧w'.cell? ⟨aB,10,none⟩=some (.string aG)∧w'.cell? ⟨aB,11,none⟩=some (i6 aH)) (ds:=[]) (rl [0,20]) (by kernel_rfl) rfl rfl (bc12 aA.out) (fun hHeld=> ?_);refine with_tabW ententeref13_Encode.tab6 ententeref13_Encode.bits6 (fun HT_ HW_=> ?_)
            generalize g3.drew=hM at aA HB hHeld ⊢
            refine pure_ (i:=0) (N:=some 43) (v:=?_) (a':=?_) (rl [1,19]) rfl rfl (any_of HT_.out (by kernel_rfl)) (fun _ _ _ h=> h) (Or.inl ⟨by rfl,?_⟩) ?_ ?_
            rotate_left
            ·intro w'
             go_simp
             with_reducible rfl
            rotate_left
            ·simp only[Act.put,l_a,l_z,l_s,i64_w,i32_w]
             rfl
            refine pure_ (i:=1) (N:=some 44) (v:=?_) (a':=?_) (rl [2,18]) rfl rfl (any_of HT_.out (by kernel_rfl)) (fun _ _ _ h=> h) (Or.inl ⟨by rfl,?_⟩) ?_ ?_
            rotate_left
            ·intro w'
             go_simp
             with_reducible rfl
            rotate_left
            ·simp only[Act.put,l_a,l_z,l_s,i64_w,i32_w]
             rfl
            refine pure_ (i:=2) (N:=some 45) (v:=?_) (a':=?_) (rl [3,17]) rfl rfl (any_of HT_.out (by kernel_rfl)) (fun _ _ _ h=> h) (Or.inl ⟨by rfl,?_⟩) ?_ ?_
            rotate_left
            ·intro w'
             go_simp
             with_reducible rfl
            rotate_left
            ·simp only[Act.put,l_a,l_z,l_s,i64_w,i32_w]
             rfl
            refine pure_ (i:=6) (N:=some 49) (v:=?_) (a':=?_) (rl [3,3,1,13]) rfl rfl (any_of HT_.out (by kernel_rfl)) (fun _ _ _ h=> h) (Or.inl ⟨by rfl,?_⟩) ?_ ?_
            rotate_left
            ·intro w'
             go_simp
             with_reducible rfl
            rotate_left
            ·simp only[Act.put,l_a,l_z,l_s,i64_w,i32_w]
             rfl
            refine pure_ (i:=9) (N:=some 52) (v:=?_) (a':=?_) (rl [3,3,1,2,1,10]) rfl rfl (any_of HT_.out (by kernel_rfl)) (fun _ _ _ h=> h) (Or.inl ⟨by rfl,?_⟩) ?_ ?_
            rotate_left
            ·intro w'
             go_simp
             with_reducible rfl
            rotate_left
            ·simp only[Act.put,l_a,l_z,l_s,i64_w,i32_w]
             rfl
            refine pure_ (i:=10) (N:=some 53) (v:=?_) (a':=?_) (rl [3,3,1,2,2,9]) rfl rfl (any_of HT_.out (by kernel_rfl)) (fun _ _ _ h=> h) (Or.inl ⟨by rfl,?_⟩) ?_ ?_
            rotate_left
            ·intro w'
             go_simp
             with_reducible rfl
            rotate_left
            ·simp only[Act.put,l_a,l_z,l_s,i64_w,i32_w]
             rfl
            refine pure_ (i:=14) (N:=some 57) (v:=?_) (a':=?_) (rl [3,3,1,2,2,3,1,5]) rfl rfl (any_of HT_.out (by kernel_rfl)) (fun _ _ _ h=> h) (Or.inl ⟨by rfl,?_⟩) ?_ ?_
            rotate_left
            ·intro w'
             go_simp
             with_reducible rfl
            rotate_left
            ·simp only[Act.put,l_a,l_z,l_s,i64_w,i32_w]
             rfl
            refine pure_ (i:=15) (N:=some 58) (v:=?_) (a':=?_) (rl [3,3,1,2,2,3,2,4]) rfl rfl (any_of HT_.out (by kernel_rfl)) (fun _ _ _ h=> h) (Or.inl ⟨by rfl,?_⟩) ?_ ?_
            rotate_left
            ·intro w'
             go_simp
             with_reducible rfl
            rotate_left
            ·simp only[Act.put,l_a,l_z,l_s,i64_w,i32_w]
             rfl
            refine take_ (i:=3) (N:=some 46) (v:=?_) (a':=?_) (rl [4,2,1,2,2,3,2,4]) rfl rfl (take_ofW HT_.out HW_.out (by kernel_rfl)) (fun _ _ _ h=> h) (Or.inl ⟨by rfl,?_⟩) hHeld ?_ ?_
            rotate_left
            ·rintro w' ⟨s0,s1,s2,s3,s4,s5,s6,s7,s8,s9,s10,s11⟩
             go_simp
             with_reducible rfl
            rotate_left
            ·simp only[Act.put,l_a,l_z,l_s,i64_w,i32_w]
             rfl
            refine take_ (i:=11) (N:=some 54) (v:=?_) (a':=?_) (rl [4,2,1,2,3,2,2,4]) rfl rfl (take_ofW HT_.out HW_.out (by kernel_rfl)) (fun _ _ _ h=> h) (Or.inl ⟨by rfl,?_⟩) hHeld ?_ ?_
            rotate_left
            ·rintro w' ⟨s0,s1,s2,s3,s4,s5,s6,s7,s8,s9,s10,s11⟩
             go_simp
             with_reducible rfl
            rotate_left
            ·simp only[Act.put,l_a,l_z,l_s,i64_w,i32_w]
             rfl
            refine take_ (i:=16) (N:=some 59) (v:=?_) (a':=?_) (rl [4,2,1,2,3,2,3,3]) rfl rfl (take_ofW HT_.out HW_.out (by kernel_rfl)) (fun _ _ _ h=> h) (Or.inl ⟨by rfl,?_⟩) hHeld ?_ ?_
            rotate_left
            ·rintro w' ⟨s0,s1,s2,s3,s4,s5,s6,s7,s8,s9,s10,s11⟩
             go_simp
             with_reducible rfl
            rotate_left
            ·simp only[Act.put,l_a,l_z,l_s,i64_w,i32_w]
             rfl
            refine one_ (i:=4) (N:=some 47) (rl [5,1,1,2,3,2,3,3]) rfl rfl (one_of HT_.out (by kernel_rfl)) (by decide) (fun K hK=> ?_)
            refine goes_ Tryz.func22 (by kernel_rfl) rfl #[i6 aT] (by rfl) rfl rfl (by(try simp only[l_m,l_c,l_n]);rfl) ?_
            with_reducible refine(ententeref13_number.calls k aT aW _ gX.out).mono ?_
            rintro e hN ⟨rfl,hb⟩
            refine⟨_,rfl,?_⟩
            have aI:=am (blk_below aA.out hb)
            have aJ:=am (below_step (HB.out) hb)
            clear aA HB
            have aA:=aI
            have HB:=aJ
            clear aI aJ
            clear hb
            refine hK.out _ _ (bc12 aA.out) (fun hHeld=> ?_)
            clear hK K
            refine norm_ (a':=?_) ?_ ?_
            rotate_left
            ·show Act.put _ (some 47) _=_
             simp only[Act.put,l_a,l_z,l_s,i64_w,i32_w]
             rfl
            refine pure_ (i:=5) (N:=some 48) (v:=?_) (a':=?_) (rl [7,2,3,2,3,3]) rfl rfl (any_of HT_.out (by kernel_rfl)) (fun _ _ _ h=> h) (Or.inl ⟨by rfl,?_⟩) ?_ ?_
            rotate_left
            ·intro w'
             go_simp
             with_reducible rfl
            rotate_left
            ·simp only[Act.put,l_a,l_z,l_s,i64_w,i32_w]
             rfl
            refine one_ (i:=7) (N:=some 50) (rl [8,1,3,2,3,3]) rfl rfl (one_of HT_.out (by kernel_rfl)) (by decide) (fun K hK=> ?_)
            refine goes_ Tryz.func24 (by kernel_rfl) rfl #[.string bL] (by rfl) rfl rfl (by(try simp only[l_m,l_c,l_n]);rfl) ?_
            with_reducible refine(ententeref01_Text.calls k bL aX _ gY.out).mono ?_
            rintro e hO ⟨rfl,hb⟩
            refine⟨_,rfl,?_⟩
            have aI:=am (blk_below aA.out hb)
            have aJ:=am (below_step (HB.out) hb)
            clear aA HB
            have aA:=aI
            have HB:=aJ
            clear aI aJ
            clear hb
            refine hK.out _ _ (bc12 aA.out) (fun hHeld=> ?_)
            clear hK K
            refine norm_ (a':=?_) ?_ ?_
            rotate_left
            ·show Act.put _ (some 50) _=_
             simp only[Act.put,l_a,l_z,l_s,i64_w,i32_w]
             rfl
            refine pure_ (i:=8) (N:=some 51) (v:=?_) (a':=?_) (rl [12,2,3,3]) rfl rfl (any_of HT_.out (by kernel_rfl)) (fun _ _ _ h=> h) (Or.inl ⟨by rfl,?_⟩) ?_ ?_
            rotate_left
            ·intro w'
             go_simp
             with_reducible rfl
            rotate_left
            ·simp only[Act.put,l_a,l_z,l_s,i64_w,i32_w]
             rfl
            refine one_ (i:=12) (N:=some 55) (rl [13,1,3,3]) rfl rfl (one_of HT_.out (by kernel_rfl)) (by decide) (fun K hK=> ?_)
            refine goes_ Tryz.func24 (by kernel_rfl) rfl #[.string aG] (by rfl) rfl rfl (by(try simp only[l_m,l_c,l_n]);rfl) ?_
            with_reducible refine(ententeref01_Text.calls k aG aZ _ gZ.out).mono ?_
            rintro e hP ⟨rfl,hb⟩
            refine⟨_,rfl,?_⟩
            have aI:=am (blk_below aA.out hb)
            have aJ:=am (below_step (HB.out) hb)
            clear aA HB
            have aA:=aI
            have HB:=aJ
            clear aI aJ
            clear hb
            refine hK.out _ _ (bc12 aA.out) (fun hHeld=> ?_)
            clear hK K
            refine norm_ (a':=?_) ?_ ?_
            rotate_left
            ·show Act.put _ (some 55) _=_
             simp only[Act.put,l_a,l_z,l_s,i64_w,i32_w]
             rfl
            refine pure_ (i:=13) (N:=some 56) (v:=?_) (a':=?_) (rl [17,3]) rfl rfl (any_of HT_.out (by kernel_rfl)) (fun _ _ _ h=> h) (Or.inl ⟨by rfl,?_⟩) ?_ ?_
            rotate_left
            ·intro w'
             go_simp
             with_reducible rfl
            rotate_left
            ·simp only[Act.put,l_a,l_z,l_s,i64_w,i32_w]
             rfl
            refine one_ (i:=17) (N:=some 60) (rl [18,2]) rfl rfl (one_of HT_.out (by kernel_rfl)) (by decide) (fun K hK=> ?_)
            refine goes_ Tryz.func22 (by kernel_rfl) rfl #[i6 aH] (by rfl) rfl rfl (by(try simp only[l_m,l_c,l_n]);rfl) ?_
            with_reducible refine(ententeref13_number.calls k aH bA _ g0.out).mono ?_
            rintro e hQ ⟨rfl,hb⟩
            refine⟨_,rfl,?_⟩
            have aI:=am (blk_below aA.out hb)
            have aJ:=am (below_step (HB.out) hb)
            clear aA HB
            have aA:=aI
            have HB:=aJ
            clear aI aJ
            clear hb
            refine hK.out _ _ (bc12 aA.out) (fun hHeld=> ?_)
            clear hK K
            refine norm_ (a':=?_) ?_ ?_
            rotate_left
            ·show Act.put _ (some 60) _=_
             simp only[Act.put,l_a,l_z,l_s,i64_w,i32_w]
             rfl
            refine pure_ (i:=18) (N:=some 61) (v:=?_) (a':=?_) (rl [19,1]) rfl rfl (any_of HT_.out (by kernel_rfl)) (fun _ _ _ h=> h) (Or.inl ⟨by rfl,?_⟩) ?_ ?_
            rotate_left
            ·intro w'
             go_simp
             with_reducible rfl
            rotate_left
            ·simp only[Act.put,l_a,l_z,l_s,i64_w,i32_w]
             rfl
            refine pure_ (i:=19) (N:=some 4) (v:=?_) (a':=?_) (rl [20]) rfl rfl (any_of HT_.out (by kernel_rfl)) (fun _ _ _ h=> h) (Or.inl ⟨by rfl,?_⟩) ?_ ?_
            rotate_left
            ·intro w'
             go_simp
             with_reducible rfl
            rotate_left
            ·simp only[Act.put,l_a,l_z,l_s,i64_w,i32_w]
             rfl
            refine done_ (done_of HT_.out (by kernel_rfl)) ?_
            try go_wp2_with (first|((with_reducible refine gate_callee (f:=25) rfl ?_);refine goesL_ (some 63) rfl rfl Tryz.func25 (by kernel_rfl) rfl #[i6 1,.string (((((((((aC++aD)++aE)++aF)++aK)++aL)++aW)++aX)++aZ)++bA)] rfl (by(try simp only[l_m,l_c,l_n]);rfl) ?_;(with_reducible refine(ententeref02_Seal.calls k 1 (((((((((aC++aD)++aE)++aF)++aK)++aL)++aW)++aX)++aZ)++bA) fT fU _ g1.out).mono ?_);rintro e hR ⟨rfl,hb⟩;refine⟨_,rfl,?_⟩;replace aA:=am (blk_below aA.out hb);replace HB:=am (below_step (HB.out) hb);clear hb))
            go_ret2
            exact⟨by rfl,HB.out⟩
           ·rw[if_neg cA]at H
            exact absurd H (by simp)
          ·rw[if_neg b8]at H
           exact absurd H (by simp)
         ·rw[if_neg b6]at H
          exact absurd H (by simp)
        ·rw[if_neg b4]at H
         exact absurd H (by simp)
      ·rw[if_neg bQ]at H
       exact absurd H (by simp)
     ·rw[if_neg bO]at H
      exact absurd H (by simp)
    ·rw[if_neg c10]at H
     exact absurd H (by simp)
   ·rw[if_neg c8]at H
    exact absurd H (by simp)
  ·rw[if_neg c6]at H
   exact absurd H (by simp)
 ·rw[if_neg c3]at H
  have fO:=beq_eq_false_iff_ne.mpr c3
  have fP:=bne_iff_ne.mpr c3
  simp only[Option.some.injEq,Prod.mk.injEq]at H
  obtain⟨rfl,rfl⟩:=H
  go_enter Tryz.func8,Tryz.ntmps8
  go_wp2_with (first|((with_reducible refine gate_dst (N:=1) rfl ?_);refine box_event ?hg (N:=1) ?hd (cs:=#[i6 aO,i6 aP,i6 aQ,i6 aM,i6 aR,i6 aS,i6 aT,i6 aU,i6 aV,.slice aY aN.length c0_9,.string aG,i6 aH]) (t:=28) ?hr ?_;(case hd=> rfl);(case hg=> rfl);(case hr=> (go_simp;done));intro aB hg hS hbox hb;have aA:=am (hbox);have bI:=am (gsz hg HB.out);have bJ:=am (gsz hg HB.out);replace HB:=am (below_step (HB.out) hb);clear hb hbox hg;obtain⟨e4,e5,e6,e7,e8,e9,fA,fB,fC,fD,cK,cL⟩:=bc12 aA.out;obtain⟨fE,fF,fG,fH,fI,fJ,fK,fL,fM,fN,cM,cN⟩:=bf12 aA.out)|((with_reducible refine gate_callee (f:=10) rfl ?_);refine goesL_ (some 8) rfl rfl Tryz.func10 (by kernel_rfl) rfl #[.agg #[i6 aO,i6 aP,i6 aQ,i6 aM,i6 aR,i6 aS,i6 aT,i6 aU,i6 aV,.slice aY aN.length c0_9,.string aG,i6 aH]] rfl (by(try simp only[l_m,l_c,l_n]);rfl) ?_;(with_reducible refine(ententeref13_Frame.calls k aO aP aQ aM aR aS aT aU aV _ _ aN aG aH bD _ ?side1 ?side2 A2.out).mono ?_);(case side1=> exact(Kd.C_below bB.out HB.out));(case side2=> exact bC.out);rintro e hT ⟨rfl,hb⟩;refine⟨_,rfl,?_⟩;replace aA:=am (blk_below aA.out hb);replace HB:=am (below_step (HB.out) hb);clear hb))
  go_ret2
  exact⟨by rfl,HB.out⟩

end Go.Proofs.YtlaeihdldofkcaaGreatDoor.PN

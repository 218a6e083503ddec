/- The machine side of this seat's laws: plain functions, and proofs that the calls do what they say; written by a program of this session over the translation; no conditions beyond those typed. -/
import Derived.Test.YtlaeihdldofkcaaGreatDoorPMx0
import Derived.Test.YtlaeihdldofkcaaGreatDoorPMx8
namespace Go.Proofs.YtlaeihdldofkcaaGreatDoor.PN
open Go.RowKit Go.Proofs.YtlaeihdldofkcaaGreatDoorW.PrintWords Go.Proofs.YtlaeihdldofkcaaGreatDoorW.PrintLast Go.Proofs.YtlaeihdldofkcaaGreatDoorW.PrintMore
attribute [local go_sem] max2_int min2_int max_two min_two max_three min_three max_four min_four   -- for this text's walks alone
open List renaming setIfInBounds_toArray → l_a, set_cons_zero → l_z, set_cons_succ → l_s, map_toArray → l_m, map_cons → l_c, map_nil → l_n
set_option linter.unusedVariables false
set_option linter.unusedSimpArgs false

/-! ### ententeref01_value: function 68 -/
def ententeref01_value.l0:Nat→ByteArray→Int→Int→Option (Int×Bool)
 |0,_,_,_=> none
 |k+1,x0,x4,x5=> if x5≥0 then(if x4> 144115188075855871 then(some (0,false))else(if 0≤x5 then(if x5< (x0.size:Int)then(ententeref01_value.l0 k x0 (IntKind.u64.wrap ((IntKind.u64.wrap (128 * x4))+(IntKind.u64.wrap (Int.tmod (bt x0 x5) 128)))) (wrap64 (x5 - 1)))else(none))else(none)))else(some (x4,true))
def ententeref01_value.f (k:Nat) (a0:ByteArray):Option (Int×Bool):=ententeref01_value.l0 k a0 0 (wrap64 ((a0.size:Int) - 1))
set_option maxHeartbeats 8000000 in
set_option maxRecDepth 100000 in
theorem ententeref01_value.calls (k:Nat) (a0:ByteArray) (r1:Int) (r2:Bool) (w:World) (h:ententeref01_value.f k a0=some (r1,r2)) :
  Calls Tryz.prog 68 #[.string a0] w fun e w'=> e=.returned (.tuple #[.int .u64 r1,.bool r2])∧Drawn0 w w':=by
 unfold ententeref01_value.f at h
 have H:=h
 clear h
 have H':=am H
 clear H
 go_enter Tryz.func68,Tryz.ntmps68
 go_wp2
 go_loopg [4,5] k (fun kq v4 v5 w'=> ∃ (aB:Int) (aA:Int),v4=.int .u64 aB∧v5=i6 aA∧Aside0 (ententeref01_value.l0 kq a0 aB aA=some (r1,r2))∧Aside0 (kq≤k)∧Drawn0 w w')
 case atStart=> exact⟨(0),(wrap64 ((a0.size:Int) - 1)),(by rfl),(by rfl),H',⟨Nat.le_refl _⟩,Drawn0.refl _⟩
 case round=>
  clear H'
  obtain⟨aB,aA,rfl,rfl,HA,aE,⟨m1,rfl⟩⟩:=hrel
  cases gk with
  |zero=> exact absurd HA.out (by simp[ententeref01_value.l0])
  |succ k1=>
   have H:=HA.out
   clear HA
   simp only[ententeref01_value.l0]at H
   by_cases c2:aA≥0
   ·rw[if_pos c2]at H
    have aC:decide (0≤aA)=true:=decide_eq_true c2
    clear c2
    by_cases c3:aB> 144115188075855871
    ·rw[if_pos c3]at H
     have aD:decide (144115188075855871< aB)=true:=decide_eq_true c3
     clear c3
     simp only[Option.some.injEq,Prod.mk.injEq]at H
     obtain⟨rfl,rfl⟩:=H
     go_wp2
     go_ret2
     exact⟨by rfl,by repeat(first|exact Drawn0.refl _|apply Drawn0.step)⟩
    ·rw[if_neg c3]at H
     have aD:decide (144115188075855871< aB)=false:=decide_eq_false c3
     clear c3
     by_cases c4:0≤aA
     ·rw[if_pos c4]at H
      have aF:=decide_eq_true c4
      clear c4
      by_cases c5:aA< (a0.size:Int)
      ·rw[if_pos c5]at H
       have aG:=decide_eq_true c5
       clear c5
       have H':=am H
       clear H
       have p6:0≤(aA:Int):=of_decide_eq_true (by(with_reducible assumption))
       have q6:aA< (a0.size:Int):=of_decide_eq_true (by(with_reducible assumption))
       have aH:=bt_at a0 aA
       replace p6:=eq_true p6
       replace q6:=eq_true q6
       go_wp2
       go_roundg k1
       case measure=> have:=aE.out;omega
       case rel=> exact⟨(IntKind.u64.wrap ((IntKind.u64.wrap (128 * aB))+(IntKind.u64.wrap (Int.tmod (bt a0 aA) 128)))),(wrap64 (aA - 1)),(by rfl),(by rfl),H',⟨by have:=aE.out;omega⟩,by repeat(first|exact Drawn0.refl _|apply Drawn0.step)⟩
      ·rw[if_neg c5]at H
       exact absurd H (by simp)
     ·rw[if_neg c4]at H
      exact absurd H (by simp)
   ·rw[if_neg c2]at H
    have aC:decide (0≤aA)=false:=decide_eq_false c2
    clear c2
    simp only[Option.some.injEq,Prod.mk.injEq]at H
    obtain⟨rfl,rfl⟩:=H
    go_wp2
    go_ret2
    exact⟨by rfl,by repeat(first|exact Drawn0.refl _|apply Drawn0.step)⟩

/-! ### ententeref01_TakeNumber: function 55 -/
mutual
def ententeref01_TakeNumber.j0:Nat→ByteArray→Int→Bool→Option (Int×Int×Int)
 |0,_,_,_=> none
 |k+1,x0,x1,bH=> if bH=true then(some (0,0,2))else(ententeref01_TakeNumber.l0 k x0 x1 x1)
def ententeref01_TakeNumber.l0:Nat→ByteArray→Int→Int→Option (Int×Int×Int)
 |0,_,_,_=> none
 |k+1,x0,x1,x7=> if x7< (x0.size:Int)then(if 0≤x7 then(ententeref01_TakeNumber.j2 k x0 x1 x7 (decide ((bt x0 x7)≥128)))else(none))else(ententeref01_TakeNumber.j2 k x0 x1 x7 false)
def ententeref01_TakeNumber.j2:Nat→ByteArray→Int→Int→Bool→Option (Int×Int×Int)
 |0,_,_,_,_=> none
 |k+1,x0,x1,x7,bI=> if bI=true then(if(wrap64 ((wrap64 (x7+1)) - x1))=10 then(some (0,0,11))else(ententeref01_TakeNumber.l0 k x0 x1 (wrap64 (x7+1))))else(if x7=(x0.size:Int)then(some (0,0,10))else(if 0≤x1 then(if x1≤(wrap64 (x7+1))then(if(wrap64 (x7+1))≤(x0.size:Int)then((ententeref01_value.f k (x0.extract (x1:Int).toNat ((wrap64 (x7+1)):Int).toNat)).bind fun aB=> (if aB.2=true then((ententeref01_Number.f k aB.1).bind fun aD=> (if aD.toList=(x0.extract (x1:Int).toNat ((wrap64 (x7+1)):Int).toNat).toList then(some (aB.1,wrap64 (x7+1),0))else(some (0,0,11))))else(some (0,0,11))))else(none))else(none))else(none)))
end
def ententeref01_TakeNumber.f (k:Nat) (a0:ByteArray) (a1:Int):Option (Int×Int×Int):=if a1< 0 then(ententeref01_TakeNumber.j0 k a0 a1 true)else(ententeref01_TakeNumber.j0 k a0 a1 (decide (a1> (a0.size:Int))))
def ententeref01_TakeNumber.T11:Bool×List (List Nat×List Nat):=(true,[([],[]),([0],[0]),([1],[1]),([2],[2]),([3,2,2],[2,3]),([2],[2]),([2],[2]),([2],[2]),([7,2],[2,7]),([5,6,8,2],[2,5,6,8]),([4,9,2],[2,4,9]),([2,10],[2,10])])
def ententeref01_TakeNumber.B11:List Nat:=[0,1,3,7,15,7,7,7,135,487,1023,2047]
theorem ententeref01_TakeNumber.tab11:rtab .any (opsOf Tryz.f55 11)=ententeref01_TakeNumber.T11:=by kernel_rfl
theorem ententeref01_TakeNumber.bits11:waitsOk ententeref01_TakeNumber.T11.2 ententeref01_TakeNumber.B11=true:=by kernel_rfl
set_option maxHeartbeats 8000000 in
set_option maxRecDepth 100000 in
theorem ententeref01_TakeNumber.calls (k:Nat) (a0:ByteArray) (a1:Int) (r1:Int) (r2:Int) (r3:Int) (w:World) (h:ententeref01_TakeNumber.f k a0 a1=some (r1,r2,r3)) :
  Calls Tryz.prog 55 #[.string a0,i6 a1] w fun e w'=> e=.returned (.tuple #[.int .u64 r1,i6 r2,i6 r3])∧Below w.heap.size w w':=by
 have HB:=am (Below.refl w.heap.size w)
 unfold ententeref01_TakeNumber.f at h
 have H:=h
 clear h
 have HC3:=am H
 clear H
 go_enter Tryz.func55,Tryz.ntmps55
 go_upto_region 1 with(fail)
 go_cut [17] (fun v17 wc=> ∃ (kq:Nat) (aF:Bool),v17=.bool aF∧Aside0 (ententeref01_TakeNumber.j0 kq a0 a1 aF=some (r1,r2,r3))∧Aside0 (kq≤k)∧Aside0 (Below w.heap.size w wc))
 case first=>
  have H:=HC3.out
  clear HC3
  by_cases c4:a1< 0
  ·rw[if_pos c4]at H
   have aZ:=decide_eq_true c4
   clear c4
   (skip)
   have H':=am H
   clear H
   go_wp2
   go_meet
   case rel=> exact⟨_,(true),(by rfl),H',⟨by omega⟩,⟨HB.out⟩⟩
  ·rw[if_neg c4]at H
   have aZ:=decide_eq_false c4
   clear c4
   (skip)
   have H':=am H
   clear H
   go_wp2
   go_meet
   case rel=> exact⟨_,(decide (a1> (a0.size:Int))),(by rfl),H',⟨by omega⟩,⟨HB.out⟩⟩
 case rest=>
  clear HC3
  obtain⟨kq,aF,rfl,HA,aU,HB⟩:=hcut
  cases kq with
  |zero=> exact absurd HA.out (by simp[ententeref01_TakeNumber.j0])
  |succ a2=>
   have H:=HA.out
   clear HA
   simp only[ententeref01_TakeNumber.j0]at H
   by_cases c5:aF=true
   ·subst c5
    have H1:(some (0,0,2))=some (r1,r2,r3):=by rw[if_pos rfl]at H;exact H
    clear H
    have H:=H1
    clear H1
    simp only[Option.some.injEq,Prod.mk.injEq]at H
    obtain⟨rfl,rfl,rfl⟩:=H
    go_wp2
    go_ret3
    exact⟨by rfl,HB.out⟩
   ·replace c5:=Bool.eq_false_iff.mpr c5
    subst c5
    have H1:(ententeref01_TakeNumber.l0 a2 a0 a1 a1)=some (r1,r2,r3):=by rw[if_neg (show ¬ (false=true)by decide)]at H;exact H
    clear H
    have H:=H1
    clear H1
    have H':=am H
    clear H
    go_wp2
    go_loopg [7] a2 (fun kq v7 w'=> ∃ (aA:Int),v7=i6 aA∧Aside0 (ententeref01_TakeNumber.l0 kq a0 a1 aA=some (r1,r2,r3))∧Aside0 (kq≤a2)∧Aside0 (Below w.heap.size w w'))
    case atStart=> exact⟨(a1),(by rfl),H',⟨Nat.le_refl _⟩,⟨HB.out⟩⟩
    case round=>
     clear H'
     obtain⟨aA,rfl,HA,aV,HB⟩:=hrel
     cases gk with
     |zero=> exact absurd HA.out (by simp[ententeref01_TakeNumber.l0])
     |succ k2=>
      have H:=HA.out
      clear HA
      simp only[ententeref01_TakeNumber.l0]at H
      have HC6:=am H
      clear H
      go_upto_region 4 with(fail)
      go_cut [28] (fun v28 wc=> ∃ (kq:Nat) (aG:Bool),v28=.bool aG∧Aside0 (ententeref01_TakeNumber.j2 kq a0 a1 aA aG=some (r1,r2,r3))∧Aside0 (kq≤k2)∧Aside0 (Below w.heap.size w wc))
      case first=>
       have H:=HC6.out
       clear HC6
       by_cases c7:aA< (a0.size:Int)
       ·rw[if_pos c7]at H
        have a3:=decide_eq_true c7
        clear c7
        (skip)
        by_cases c8:0≤aA
        ·rw[if_pos c8]at H
         have bJ:=decide_eq_true c8
         clear c8
         have H':=am H
         clear H
         have p9:0≤(aA:Int):=of_decide_eq_true (by(with_reducible assumption))
         have q9:aA< (a0.size:Int):=of_decide_eq_true (by(with_reducible assumption))
         have bK:=bt_at a0 aA
         replace p9:=eq_true p9
         replace q9:=eq_true q9
         go_wp2
         go_meet
         case rel=> exact⟨_,(decide ((bt a0 aA)≥128)),(by rfl),H',⟨by have:=aU.out;have:=aV.out;omega⟩,⟨HB.out⟩⟩
        ·rw[if_neg c8]at H
         exact absurd H (by simp)
       ·rw[if_neg c7]at H
        have a3:=decide_eq_false c7
        clear c7
        (skip)
        have H':=am H
        clear H
        go_wp2
        go_meet
        case rel=> exact⟨_,(false),(by rfl),H',⟨by have:=aU.out;have:=aV.out;omega⟩,⟨HB.out⟩⟩
      case rest=>
       clear HC6
       obtain⟨kq,aG,rfl,HA,a6,HB⟩:=hcut
       cases kq with
       |zero=> exact absurd HA.out (by simp[ententeref01_TakeNumber.j2])
       |succ aH=>
        have H:=HA.out
        clear HA
        simp only[ententeref01_TakeNumber.j2]at H
        by_cases c10:aG=true
        ·subst c10
         have H1:(if(wrap64 ((wrap64 (aA+1)) - a1))=10 then(some (0,0,11))else(ententeref01_TakeNumber.l0 aH a0 a1 (wrap64 (aA+1))))=some (r1,r2,r3):=by rw[if_pos rfl]at H;exact H
         clear H
         have H:=H1
         clear H1
         by_cases aI:(wrap64 ((wrap64 (aA+1)) - a1))=10
         ·rw[if_pos aI]at H
          have aL:=beq_iff_eq.mpr aI
          have aM:=bne_eq_false_iff_eq.mpr aI
          clear aI
          simp only[Option.some.injEq,Prod.mk.injEq]at H
          obtain⟨rfl,rfl,rfl⟩:=H
          go_wp2
          go_ret3
          exact⟨by rfl,HB.out⟩
         ·rw[if_neg aI]at H
          have aL:=beq_eq_false_iff_ne.mpr aI
          have aM:=bne_iff_ne.mpr aI
          have H':=am H
          clear H
          go_wp2
          go_roundg aH
          case measure=> have:=aU.out;have:=aV.out;have:=a6.out;omega
          case rel=> exact⟨(wrap64 (aA+1)),(by rfl),H',⟨by have:=aU.out;have:=aV.out;have:=a6.out;omega⟩,⟨HB.out⟩⟩
        ·replace c10:=Bool.eq_false_iff.mpr c10
         subst c10
         have H1:(if aA=(a0.size:Int)then(some (0,0,10))else(if 0≤a1 then(if a1≤(wrap64 (aA+1))then(if(wrap64 (aA+1))≤(a0.size:Int)then((ententeref01_value.f aH (a0.extract (a1:Int).toNat ((wrap64 (aA+1)):Int).toNat)).bind fun aB=> (if aB.2=true then((ententeref01_Number.f aH aB.1).bind fun aD=> (if aD.toList=(a0.extract (a1:Int).toNat ((wrap64 (aA+1)):Int).toNat).toList then(some (aB.1,wrap64 (aA+1),0))else(some (0,0,11))))else(some (0,0,11))))else(none))else(none))else(none)))=some (r1,r2,r3):=by rw[if_neg (show ¬ (false=true)by decide)]at H;exact H
         clear H
         have H:=H1
         clear H1
         by_cases aJ:aA=(a0.size:Int)
         ·rw[if_pos aJ]at H
          have aN:=beq_iff_eq.mpr aJ
          have aO:=bne_eq_false_iff_eq.mpr aJ
          clear aJ
          simp only[Option.some.injEq,Prod.mk.injEq]at H
          obtain⟨rfl,rfl,rfl⟩:=H
          go_wp2
          go_ret3
          exact⟨by rfl,HB.out⟩
         ·rw[if_neg aJ]at H
          have aN:=beq_eq_false_iff_ne.mpr aJ
          have aO:=bne_iff_ne.mpr aJ
          by_cases aP:0≤a1
          ·rw[if_pos aP]at H
           have a7:=eq_true aP
           have a8:=decide_eq_true aP
           clear aP
           by_cases aW:a1≤(wrap64 (aA+1))
           ·rw[if_pos aW]at H
            have a9:=eq_true aW
            have bA:=decide_eq_true aW
            by_cases aX:(wrap64 (aA+1))≤(a0.size:Int)
            ·rw[if_pos aX]at H
             have bB:=eq_true aX
             have bC:=decide_eq_true aX
             obtain⟨⟨aE,a4⟩,aQ,H⟩:=Option.bind_eq_some_iff.mp H
             try dsimp only at H
             have a5:=am aQ
             clear aQ
             by_cases aY:a4=true
             ·subst aY
              have H1:((ententeref01_Number.f aH aE).bind fun aD=> (if aD.toList=(a0.extract (a1:Int).toNat ((wrap64 (aA+1)):Int).toNat).toList then(some (aE,wrap64 (aA+1),0))else(some (0,0,11))))=some (r1,r2,r3):=by rw[if_pos rfl]at H;exact H
              clear H
              have H:=H1
              clear H1
              obtain⟨aD,aR,H⟩:=Option.bind_eq_some_iff.mp H
              try dsimp only at H
              have bD:=am aR
              clear aR
              have bE:=eq_true (of_decide_eq_true (by(with_reducible assumption)):0≤a1)
              have bF:=eq_true (of_decide_eq_true (by(with_reducible assumption)):a1≤(wrap64 (aA+1)))
              have bG:=eq_true (of_decide_eq_true (by(with_reducible assumption)):(wrap64 (aA+1))≤(a0.size:Int))
              by_cases aK:aD.toList=(a0.extract (a1:Int).toNat ((wrap64 (aA+1)):Int).toNat).toList
              ·rw[if_pos aK]at H
               have aS:=beq_iff_eq.mpr aK
               have aT:=bne_eq_false_iff_eq.mpr aK
               clear aK
               simp only[Option.some.injEq,Prod.mk.injEq]at H
               obtain⟨rfl,rfl,rfl⟩:=H
               try go_wp2_with (first|((with_reducible refine gate_callee (f:=68) rfl ?_);refine goesL_ (some 45) rfl rfl Tryz.func68 (by kernel_rfl) rfl #[.string (a0.extract (a1:Int).toNat ((wrap64 (aA+1)):Int).toNat)] rfl (by(try simp only[l_m,l_c,l_n]);rfl) ?_;(with_reducible refine(ententeref01_value.calls aH (a0.extract (a1:Int).toNat ((wrap64 (aA+1)):Int).toNat) aE true _ a5.out).mono ?_);rintro e w' ⟨rfl,⟨nd,rfl⟩⟩;refine⟨_,rfl,?_⟩))
               (try(rw[drewN_self wc];generalize hq_:World.drewN wc _=wc;have aC:Aside0 (Below w.heap.size w wc):=⟨by rw[← hq_];exact(pw_below_drewN HB.out _)⟩;clear HB hq_;have HB:=aC;clear aC))
               have aC:=am (below_drew1 HB.out)
               clear HB
               have HB:=aC
               clear aC
               refine start_ (n:=12) (S:=fun w'=> True) (ds:=[]) (rl [0,12]) (by kernel_rfl) rfl rfl trivial (fun hHeld=> ?_);refine with_tabW ententeref01_TakeNumber.tab11 ententeref01_TakeNumber.bits11 (fun HT_ HW_=> ?_)
               generalize wc.drew=bL at HB hHeld ⊢
               refine pure_ (i:=0) (N:=some 48) (v:=?_) (a':=?_) (rl [1,11]) rfl rfl (any_of HT_.out (by kernel_rfl)) (fun _ _ _ h=> h) (Or.inl ⟨by rfl,?_⟩) ?_ ?_
               rotate_left
               ·intro w'
                go_simp
                with_reducible rfl
               rotate_left
               ·simp only[Act.put,l_a,l_z,l_s,i64_w,i32_w]
                rfl
               refine pure_ (i:=1) (N:=some 49) (v:=?_) (a':=?_) (rl [2,10]) rfl rfl (any_of HT_.out (by kernel_rfl)) (fun _ _ _ h=> h) (Or.inl ⟨by rfl,?_⟩) ?_ ?_
               rotate_left
               ·intro w'
                go_simp
                with_reducible rfl
               rotate_left
               ·simp only[Act.put,l_a,l_z,l_s,i64_w,i32_w]
                rfl
               refine pure_ (i:=2) (N:=some 50) (v:=?_) (a':=?_) (rl [3,9]) rfl rfl (any_of HT_.out (by kernel_rfl)) (fun _ _ _ h=> h) (Or.inl ⟨by rfl,?_⟩) ?_ ?_
               rotate_left
               ·intro w'
                go_simp
                with_reducible rfl
               rotate_left
               ·simp only[Act.put,l_a,l_z,l_s,i64_w,i32_w]
                rfl
               refine pure_ (i:=3) (N:=some 51) (v:=?_) (a':=?_) (rl [4,8]) rfl rfl (any_of HT_.out (by kernel_rfl)) (fun _ _ _ h=> h) (Or.inl ⟨by rfl,?_⟩) ?_ ?_
               rotate_left
               ·intro w'
                go_simp
                with_reducible rfl
               rotate_left
               ·simp only[Act.put,l_a,l_z,l_s,i64_w,i32_w]
                rfl
               refine pure_ (i:=5) (N:=some 53) (v:=?_) (a':=?_) (rl [4,1,1,6]) rfl rfl (any_of HT_.out (by kernel_rfl)) (fun _ _ _ h=> h) (Or.inl ⟨by rfl,?_⟩) ?_ ?_
               rotate_left
               ·intro w'
                go_simp
                with_reducible rfl
               rotate_left
               ·simp only[Act.put,l_a,l_z,l_s,i64_w,i32_w]
                rfl
               refine pure_ (i:=6) (N:=some 54) (v:=?_) (a':=?_) (rl [4,1,2,5]) rfl rfl (any_of HT_.out (by kernel_rfl)) (fun _ _ _ h=> h) (Or.inl ⟨by rfl,?_⟩) ?_ ?_
               rotate_left
               ·intro w'
                go_simp
                with_reducible rfl
               rotate_left
               ·simp only[Act.put,l_a,l_z,l_s,i64_w,i32_w]
                rfl
               refine pure_ (i:=7) (N:=some 55) (v:=?_) (a':=?_) (rl [4,1,3,4]) rfl rfl (any_of HT_.out (by kernel_rfl)) (fun _ _ _ h=> h) (Or.inl ⟨by rfl,?_⟩) ?_ ?_
               rotate_left
               ·intro w'
                go_simp
                with_reducible rfl
               rotate_left
               ·simp only[Act.put,l_a,l_z,l_s,i64_w,i32_w]
                rfl
               refine pure_ (i:=8) (N:=some 56) (v:=?_) (a':=?_) (rl [4,1,4,3]) rfl rfl (any_of HT_.out (by kernel_rfl)) (fun _ _ _ h=> h) (Or.inl ⟨by rfl,?_⟩) ?_ ?_
               rotate_left
               ·intro w'
                go_simp
                with_reducible rfl
               rotate_left
               ·simp only[Act.put,l_a,l_z,l_s,i64_w,i32_w]
                rfl
               refine pure_ (i:=9) (N:=some 57) (v:=?_) (a':=?_) (rl [4,1,5,2]) rfl rfl (any_of HT_.out (by kernel_rfl)) (fun _ _ _ h=> h) (Or.inl ⟨by rfl,?_⟩) ?_ ?_
               rotate_left
               ·intro w'
                go_simp
                with_reducible rfl
               rotate_left
               ·simp only[Act.put,l_a,l_z,l_s,i64_w,i32_w]
                rfl
               refine one_ (i:=4) (N:=some 52) (rl [10,2]) rfl rfl (one_of HT_.out (by kernel_rfl)) (by decide) (fun K hK=> ?_)
               refine goes_ Tryz.func44 (by kernel_rfl) rfl #[.int .u64 aE] (by rfl) rfl rfl (by(try simp only[l_m,l_c,l_n]);rfl) ?_
               with_reducible refine(ententeref01_Number.calls aH aE aD _ bD.out).mono ?_
               rintro e bM ⟨rfl,hb⟩
               refine⟨_,rfl,?_⟩
               have aC:=am (below_step (HB.out) hb)
               clear HB
               have HB:=aC
               clear aC
               clear hb
               refine hK.out _ _ trivial (fun hHeld=> ?_)
               clear hK K
               refine norm_ (a':=?_) ?_ ?_
               rotate_left
               ·show Act.put _ (some 52) _=_
                simp only[Act.put,l_a,l_z,l_s,i64_w,i32_w]
                rfl
               refine pure_ (i:=10) (N:=some 58) (v:=?_) (a':=?_) (rl [11,1]) rfl rfl (any_of HT_.out (by kernel_rfl)) (fun _ _ _ h=> h) (Or.inl ⟨by rfl,?_⟩) ?_ ?_
               rotate_left
               ·intro w'
                go_simp
                with_reducible rfl
               rotate_left
               ·simp only[Act.put,l_a,l_z,l_s,i64_w,i32_w]
                rfl
               refine pure_ (i:=11) (N:=some 59) (v:=?_) (a':=?_) (rl [12]) rfl rfl (any_of HT_.out (by kernel_rfl)) (fun _ _ _ h=> h) (Or.inl ⟨by rfl,?_⟩) ?_ ?_
               rotate_left
               ·intro w'
                go_simp
                with_reducible rfl
               rotate_left
               ·simp only[Act.put,l_a,l_z,l_s,i64_w,i32_w]
                rfl
               refine done_ (done_of HT_.out (by kernel_rfl)) ?_
               try go_wp2
               go_ret3
               exact⟨by rfl,HB.out⟩
              ·rw[if_neg aK]at H
               have aS:=beq_eq_false_iff_ne.mpr aK
               have aT:=bne_iff_ne.mpr aK
               simp only[Option.some.injEq,Prod.mk.injEq]at H
               obtain⟨rfl,rfl,rfl⟩:=H
               try go_wp2_with (first|((with_reducible refine gate_callee (f:=68) rfl ?_);refine goesL_ (some 45) rfl rfl Tryz.func68 (by kernel_rfl) rfl #[.string (a0.extract (a1:Int).toNat ((wrap64 (aA+1)):Int).toNat)] rfl (by(try simp only[l_m,l_c,l_n]);rfl) ?_;(with_reducible refine(ententeref01_value.calls aH (a0.extract (a1:Int).toNat ((wrap64 (aA+1)):Int).toNat) aE true _ a5.out).mono ?_);rintro e w' ⟨rfl,⟨nd,rfl⟩⟩;refine⟨_,rfl,?_⟩))
               (try(rw[drewN_self wc];generalize hq_:World.drewN wc _=wc;have aC:Aside0 (Below w.heap.size w wc):=⟨by rw[← hq_];exact(pw_below_drewN HB.out _)⟩;clear HB hq_;have HB:=aC;clear aC))
               have aC:=am (below_drew1 HB.out)
               clear HB
               have HB:=aC
               clear aC
               refine start_ (n:=12) (S:=fun w'=> True) (ds:=[]) (rl [0,12]) (by kernel_rfl) rfl rfl trivial (fun hHeld=> ?_);refine with_tabW ententeref01_TakeNumber.tab11 ententeref01_TakeNumber.bits11 (fun HT_ HW_=> ?_)
               generalize wc.drew=bN at HB hHeld ⊢
               refine pure_ (i:=0) (N:=some 48) (v:=?_) (a':=?_) (rl [1,11]) rfl rfl (any_of HT_.out (by kernel_rfl)) (fun _ _ _ h=> h) (Or.inl ⟨by rfl,?_⟩) ?_ ?_
               rotate_left
               ·intro w'
                go_simp
                with_reducible rfl
               rotate_left
               ·simp only[Act.put,l_a,l_z,l_s,i64_w,i32_w]
                rfl
               refine pure_ (i:=1) (N:=some 49) (v:=?_) (a':=?_) (rl [2,10]) rfl rfl (any_of HT_.out (by kernel_rfl)) (fun _ _ _ h=> h) (Or.inl ⟨by rfl,?_⟩) ?_ ?_
               rotate_left
               ·intro w'
                go_simp
                with_reducible rfl
               rotate_left
               ·simp only[Act.put,l_a,l_z,l_s,i64_w,i32_w]
                rfl
               refine pure_ (i:=2) (N:=some 50) (v:=?_) (a':=?_) (rl [3,9]) rfl rfl (any_of HT_.out (by kernel_rfl)) (fun _ _ _ h=> h) (Or.inl ⟨by rfl,?_⟩) ?_ ?_
               rotate_left
               ·intro w'
                go_simp
                with_reducible rfl
               rotate_left
               ·simp only[Act.put,l_a,l_z,l_s,i64_w,i32_w]
                rfl
               refine pure_ (i:=3) (N:=some 51) (v:=?_) (a':=?_) (rl [4,8]) rfl rfl (any_of HT_.out (by kernel_rfl)) (fun _ _ _ h=> h) (Or.inl ⟨by rfl,?_⟩) ?_ ?_
               rotate_left
               ·intro w'
                go_simp
                with_reducible rfl
               rotate_left
               ·simp only[Act.put,l_a,l_z,l_s,i64_w,i32_w]
                rfl
               refine pure_ (i:=5) (N:=some 53) (v:=?_) (a':=?_) (rl [4,1,1,6]) rfl rfl (any_of HT_.out (by kernel_rfl)) (fun _ _ _ h=> h) (Or.inl ⟨by rfl,?_⟩) ?_ ?_
               rotate_left
               ·intro w'
                go_simp
                with_reducible rfl
               rotate_left
               ·simp only[Act.put,l_a,l_z,l_s,i64_w,i32_w]
                rfl
               refine pure_ (i:=6) (N:=some 54) (v:=?_) (a':=?_) (rl [4,1,2,5]) rfl rfl (any_of HT_.out (by kernel_rfl)) (fun _ _ _ h=> h) (Or.inl ⟨by rfl,?_⟩) ?_ ?_
               rotate_left
               ·intro w'
                go_simp
                with_reducible rfl
               rotate_left
               ·simp only[Act.put,l_a,l_z,l_s,i64_w,i32_w]
                rfl
               refine pure_ (i:=7) (N:=some 55) (v:=?_) (a':=?_) (rl [4,1,3,4]) rfl rfl (any_of HT_.out (by kernel_rfl)) (fun _ _ _ h=> h) (Or.inl ⟨by rfl,?_⟩) ?_ ?_
               rotate_left
               ·intro w'
                go_simp
                with_reducible rfl
               rotate_left
               ·simp only[Act.put,l_a,l_z,l_s,i64_w,i32_w]
                rfl
               refine pure_ (i:=8) (N:=some 56) (v:=?_) (a':=?_) (rl [4,1,4,3]) rfl rfl (any_of HT_.out (by kernel_rfl)) (fun _ _ _ h=> h) (Or.inl ⟨by rfl,?_⟩) ?_ ?_
               rotate_left
               ·intro w'
                go_simp
                with_reducible rfl
               rotate_left
               ·simp only[Act.put,l_a,l_z,l_s,i64_w,i32_w]
                rfl
               refine pure_ (i:=9) (N:=some 57) (v:=?_) (a':=?_) (rl [4,1,5,2]) rfl rfl (any_of HT_.out (by kernel_rfl)) (fun _ _ _ h=> h) (Or.inl ⟨by rfl,?_⟩) ?_ ?_
               rotate_left
               ·intro w'
                go_simp
                with_reducible rfl
               rotate_left
               ·simp only[Act.put,l_a,l_z,l_s,i64_w,i32_w]
                rfl
               refine one_ (i:=4) (N:=some 52) (rl [10,2]) rfl rfl (one_of HT_.out (by kernel_rfl)) (by decide) (fun K hK=> ?_)
               refine goes_ Tryz.func44 (by kernel_rfl) rfl #[.int .u64 aE] (by rfl) rfl rfl (by(try simp only[l_m,l_c,l_n]);rfl) ?_
               with_reducible refine(ententeref01_Number.calls aH aE aD _ bD.out).mono ?_
               rintro e bO ⟨rfl,hb⟩
               refine⟨_,rfl,?_⟩
               have aC:=am (below_step (HB.out) hb)
               clear HB
               have HB:=aC
               clear aC
               clear hb
               refine hK.out _ _ trivial (fun hHeld=> ?_)
               clear hK K
               refine norm_ (a':=?_) ?_ ?_
               rotate_left
               ·show Act.put _ (some 52) _=_
                simp only[Act.put,l_a,l_z,l_s,i64_w,i32_w]
                rfl
               refine pure_ (i:=10) (N:=some 58) (v:=?_) (a':=?_) (rl [11,1]) rfl rfl (any_of HT_.out (by kernel_rfl)) (fun _ _ _ h=> h) (Or.inl ⟨by rfl,?_⟩) ?_ ?_
               rotate_left
               ·intro w'
                go_simp
                with_reducible rfl
               rotate_left
               ·simp only[Act.put,l_a,l_z,l_s,i64_w,i32_w]
                rfl
               refine pure_ (i:=11) (N:=some 59) (v:=?_) (a':=?_) (rl [12]) rfl rfl (any_of HT_.out (by kernel_rfl)) (fun _ _ _ h=> h) (Or.inl ⟨by rfl,?_⟩) ?_ ?_
               rotate_left
               ·intro w'
                go_simp
                with_reducible rfl
               rotate_left
               ·simp only[Act.put,l_a,l_z,l_s,i64_w,i32_w]
                rfl
               refine done_ (done_of HT_.out (by kernel_rfl)) ?_
               try go_wp2
               go_ret3
               exact⟨by rfl,HB.out⟩
             ·replace aY:=Bool.eq_false_iff.mpr aY
              subst aY
              have H1:(some (0,0,11))=some (r1,r2,r3):=by rw[if_neg (show ¬ (false=true)by decide)]at H;exact H
              clear H
              have H:=H1
              clear H1
              simp only[Option.some.injEq,Prod.mk.injEq]at H
              obtain⟨rfl,rfl,rfl⟩:=H
              try go_wp2_with (first|((with_reducible refine gate_callee (f:=68) rfl ?_);refine goesL_ (some 45) rfl rfl Tryz.func68 (by kernel_rfl) rfl #[.string (a0.extract (a1:Int).toNat ((wrap64 (aA+1)):Int).toNat)] rfl (by(try simp only[l_m,l_c,l_n]);rfl) ?_;(with_reducible refine(ententeref01_value.calls aH (a0.extract (a1:Int).toNat ((wrap64 (aA+1)):Int).toNat) aE false _ a5.out).mono ?_);rintro e w' ⟨rfl,⟨nd,rfl⟩⟩;refine⟨_,rfl,?_⟩))
              (try(rw[drewN_self wc];generalize hq_:World.drewN wc _=wc;have aC:Aside0 (Below w.heap.size w wc):=⟨by rw[← hq_];exact(pw_below_drewN HB.out _)⟩;clear HB hq_;have HB:=aC;clear aC))
              have aC:=am (below_drew1 HB.out)
              clear HB
              have HB:=aC
              clear aC
              refine start_ (n:=12) (S:=fun w'=> True) (ds:=[]) (rl [0,12]) (by kernel_rfl) rfl rfl trivial (fun hHeld=> ?_);refine with_tabW ententeref01_TakeNumber.tab11 ententeref01_TakeNumber.bits11 (fun HT_ HW_=> ?_)
              generalize wc.drew=bP at HB hHeld ⊢
              refine pure_ (i:=0) (N:=some 48) (v:=?_) (a':=?_) (rl [1,11]) rfl rfl (any_of HT_.out (by kernel_rfl)) (fun _ _ _ h=> h) (Or.inl ⟨by rfl,?_⟩) ?_ ?_
              rotate_left
              ·intro w'
               go_simp
               with_reducible rfl
              rotate_left
              ·simp only[Act.put,l_a,l_z,l_s,i64_w,i32_w]
               rfl
              refine pure_ (i:=1) (N:=some 49) (v:=?_) (a':=?_) (rl [2,10]) rfl rfl (any_of HT_.out (by kernel_rfl)) (fun _ _ _ h=> h) (Or.inl ⟨by rfl,?_⟩) ?_ ?_
              rotate_left
              ·intro w'
               go_simp
               with_reducible rfl
              rotate_left
              ·simp only[Act.put,l_a,l_z,l_s,i64_w,i32_w]
               rfl
              refine pure_ (i:=2) (N:=some 50) (v:=?_) (a':=?_) (rl [3,9]) rfl rfl (any_of HT_.out (by kernel_rfl)) (fun _ _ _ h=> h) (Or.inl ⟨by rfl,?_⟩) ?_ ?_
              rotate_left
              ·intro w'
               go_simp
               with_reducible rfl
              rotate_left
              ·simp only[Act.put,l_a,l_z,l_s,i64_w,i32_w]
               rfl
              refine pure_ (i:=3) (N:=some 51) (v:=undef) (a':=?_) (rl [4,8]) rfl rfl (any_of HT_.out (by kernel_rfl)) (fun _ _ _ h=> h) (Or.inr ⟨by rfl,rfl⟩) ?_ ?_
              rotate_left
              ·simp only[Act.put,l_a,l_z,l_s,i64_w,i32_w]
               rfl
              refine pure_ (i:=4) (N:=some 52) (v:=undef) (a':=?_) (rl [5,7]) rfl rfl (any_of HT_.out (by kernel_rfl)) (fun _ _ _ h=> h) (Or.inr ⟨by rfl,rfl⟩) ?_ ?_
              rotate_left
              ·simp only[Act.put,l_a,l_z,l_s,i64_w,i32_w]
               rfl
              refine pure_ (i:=5) (N:=some 53) (v:=undef) (a':=?_) (rl [6,6]) rfl rfl (any_of HT_.out (by kernel_rfl)) (fun _ _ _ h=> h) (Or.inr ⟨by rfl,rfl⟩) ?_ ?_
              rotate_left
              ·simp only[Act.put,l_a,l_z,l_s,i64_w,i32_w]
               rfl
              refine pure_ (i:=6) (N:=some 54) (v:=undef) (a':=?_) (rl [7,5]) rfl rfl (any_of HT_.out (by kernel_rfl)) (fun _ _ _ h=> h) (Or.inr ⟨by rfl,rfl⟩) ?_ ?_
              rotate_left
              ·simp only[Act.put,l_a,l_z,l_s,i64_w,i32_w]
               rfl
              refine pure_ (i:=7) (N:=some 55) (v:=undef) (a':=?_) (rl [8,4]) rfl rfl (any_of HT_.out (by kernel_rfl)) (fun _ _ _ h=> h) (Or.inr ⟨by rfl,rfl⟩) ?_ ?_
              rotate_left
              ·simp only[Act.put,l_a,l_z,l_s,i64_w,i32_w]
               rfl
              refine pure_ (i:=8) (N:=some 56) (v:=undef) (a':=?_) (rl [9,3]) rfl rfl (any_of HT_.out (by kernel_rfl)) (fun _ _ _ h=> h) (Or.inr ⟨by rfl,rfl⟩) ?_ ?_
              rotate_left
              ·simp only[Act.put,l_a,l_z,l_s,i64_w,i32_w]
               rfl
              refine pure_ (i:=9) (N:=some 57) (v:=undef) (a':=?_) (rl [10,2]) rfl rfl (any_of HT_.out (by kernel_rfl)) (fun _ _ _ h=> h) (Or.inr ⟨by rfl,rfl⟩) ?_ ?_
              rotate_left
              ·simp only[Act.put,l_a,l_z,l_s,i64_w,i32_w]
               rfl
              refine pure_ (i:=10) (N:=some 58) (v:=undef) (a':=?_) (rl [11,1]) rfl rfl (any_of HT_.out (by kernel_rfl)) (fun _ _ _ h=> h) (Or.inr ⟨by rfl,rfl⟩) ?_ ?_
              rotate_left
              ·simp only[Act.put,l_a,l_z,l_s,i64_w,i32_w]
               rfl
              refine pure_ (i:=11) (N:=some 59) (v:=?_) (a':=?_) (rl [12]) rfl rfl (any_of HT_.out (by kernel_rfl)) (fun _ _ _ h=> h) (Or.inl ⟨by rfl,?_⟩) ?_ ?_
              rotate_left
              ·intro w'
               go_simp
               with_reducible rfl
              rotate_left
              ·simp only[Act.put,l_a,l_z,l_s,i64_w,i32_w]
               rfl
              refine done_ (done_of HT_.out (by kernel_rfl)) ?_
              try go_wp2
              go_ret3
              exact⟨by rfl,HB.out⟩
            ·rw[if_neg aX]at H
             exact absurd H (by simp)
           ·rw[if_neg aW]at H
            exact absurd H (by simp)
          ·rw[if_neg aP]at H
           exact absurd H (by simp)

/-! ### ententeref02_Open: function 31 -/
def ententeref02_Open.j0:Nat→ByteArray→Int→Int→Bool→Option (ByteArray×Int×Int)
 |0,_,_,_,_=> none
 |k+1,x0,x1,x2,cR=> if cR=true then(some ((⟨#[]⟩:ByteArray),0,2))else(if 0≤x1 then(if x1≤(x0.size:Int)then(if(x0.extract (x1:Int).toNat x0.size).toList=([]:List UInt8)then(some ((⟨#[]⟩:ByteArray),0,10))else(if 0< ((x0.extract (x1:Int).toNat x0.size).size:Int)then(if(bt (x0.extract (x1:Int).toNat x0.size) 0)=231 then(if((x0.extract (x1:Int).toNat x0.size).size:Int)=1 then(some ((⟨#[]⟩:ByteArray),0,10))else(if 1< ((x0.extract (x1:Int).toNat x0.size).size:Int)then(if(wrap64 (bt (x0.extract (x1:Int).toNat x0.size) 1))=x2 then((ententeref01_TakeNumber.f k (x0.extract (x1:Int).toNat x0.size) 2).bind fun aA=> (if aA.2.2=0 then(if aA.1> 30000 then(some ((⟨#[]⟩:ByteArray),0,3))else(if(wrap64 (((x0.extract (x1:Int).toNat x0.size).size:Int) - aA.2.1))< (wrap64 ((wrap64 (aA.1))+8))then(some ((⟨#[]⟩:ByteArray),0,10))else(if 0≤aA.2.1 then(if aA.2.1≤(wrap64 (aA.2.1+(wrap64 (aA.1))))then(if(wrap64 (aA.2.1+(wrap64 (aA.1))))≤((x0.extract (x1:Int).toNat x0.size).size:Int)then((ententeref02_Seal.f k x2 ((x0.extract (x1:Int).toNat x0.size).extract (aA.2.1:Int).toNat ((wrap64 (aA.2.1+(wrap64 (aA.1)))):Int).toNat)).bind fun aF=> (if 0≤(wrap64 ((wrap64 (aA.2.1+(wrap64 (aA.1))))+8))then(if(wrap64 ((wrap64 (aA.2.1+(wrap64 (aA.1))))+8))≤((x0.extract (x1:Int).toNat x0.size).size:Int)then(if aF.1.toList=((x0.extract (x1:Int).toNat x0.size).extract 0 ((wrap64 ((wrap64 (aA.2.1+(wrap64 (aA.1))))+8)):Int).toNat).toList then(some ((x0.extract (x1:Int).toNat x0.size).extract (aA.2.1:Int).toNat ((wrap64 (aA.2.1+(wrap64 (aA.1)))):Int).toNat,wrap64 (x1+(aF.1.size:Int)),0))else(some ((⟨#[]⟩:ByteArray),0,22)))else(none))else(none)))else(none))else(none))else(none))))else(some ((⟨#[]⟩:ByteArray),0,aA.2.2))))else(some ((⟨#[]⟩:ByteArray),0,21)))else(none)))else(some ((⟨#[]⟩:ByteArray),0,20)))else(none)))else(none))else(none))
def ententeref02_Open.f (k:Nat) (a0:ByteArray) (a1:Int) (a2:Int):Option (ByteArray×Int×Int):=if a1< 0 then(ententeref02_Open.j0 k a0 a1 a2 true)else(if a1> (a0.size:Int)then(ententeref02_Open.j0 k a0 a1 a2 true)else(if a2< 0 then(ententeref02_Open.j0 k a0 a1 a2 true)else(ententeref02_Open.j0 k a0 a1 a2 (decide (a2> 255)))))
set_option maxHeartbeats 8000000 in
set_option maxRecDepth 100000 in
theorem ententeref02_Open.calls (k:Nat) (a0:ByteArray) (a1:Int) (a2:Int) (r1:ByteArray) (r2:Int) (r3:Int) (w:World) (h:ententeref02_Open.f k a0 a1 a2=some (r1,r2,r3)) :
  Calls Tryz.prog 31 #[.string a0,i6 a1,i6 a2] w fun e w'=> e=.returned (.tuple #[.string r1,i6 r2,i6 r3])∧Below w.heap.size w w':=by
 have HB:=am (Below.refl w.heap.size w)
 unfold ententeref02_Open.f at h
 have H:=h
 clear h
 have HC4:=am H
 clear H
 go_enter Tryz.func31,Tryz.ntmps31
 go_upto_region 1 with(fail)
 go_cut [31] (fun v31 wc=> ∃ (kq:Nat) (aM:Bool),v31=.bool aM∧Aside0 (ententeref02_Open.j0 kq a0 a1 a2 aM=some (r1,r2,r3))∧Aside0 (kq≤k)∧Aside0 (Below w.heap.size w wc))
 case first=>
  have H:=HC4.out
  clear HC4
  by_cases c5:a1< 0
  ·rw[if_pos c5]at H
   have b7:=decide_eq_true c5
   clear c5
   (skip)
   have H':=am H
   clear H
   go_wp2
   go_meet
   case rel=> exact⟨_,(true),(by rfl),H',⟨by omega⟩,⟨HB.out⟩⟩
  ·rw[if_neg c5]at H
   have b7:=decide_eq_false c5
   clear c5
   (skip)
   by_cases c6:a1> (a0.size:Int)
   ·rw[if_pos c6]at H
    have b8:decide ((a0.size:Int)< a1)=true:=decide_eq_true c6
    clear c6
    have H':=am H
    clear H
    go_wp2
    go_meet
    case rel=> exact⟨_,(true),(by rfl),H',⟨by omega⟩,⟨HB.out⟩⟩
   ·rw[if_neg c6]at H
    have b8:decide ((a0.size:Int)< a1)=false:=decide_eq_false c6
    clear c6
    by_cases c7:a2< 0
    ·rw[if_pos c7]at H
     have b9:=decide_eq_true c7
     clear c7
     have H':=am H
     clear H
     go_wp2
     go_meet
     case rel=> exact⟨_,(true),(by rfl),H',⟨by omega⟩,⟨HB.out⟩⟩
    ·rw[if_neg c7]at H
     have b9:=decide_eq_false c7
     clear c7
     have H':=am H
     clear H
     go_wp2
     go_meet
     case rel=> exact⟨_,(decide (a2> 255)),(by rfl),H',⟨by omega⟩,⟨HB.out⟩⟩
 case rest=>
  clear HC4
  obtain⟨kq,aM,rfl,HA,cU,HB⟩:=hcut
  cases kq with
  |zero=> exact absurd HA.out (by simp[ententeref02_Open.j0])
  |succ a4=>
   have H:=HA.out
   clear HA
   simp only[ententeref02_Open.j0]at H
   by_cases c8:aM=true
   ·subst c8
    have H1:(some ((⟨#[]⟩:ByteArray),0,2))=some (r1,r2,r3):=by rw[if_pos rfl]at H;exact H
    clear H
    have H:=H1
    clear H1
    simp only[Option.some.injEq,Prod.mk.injEq]at H
    obtain⟨rfl,rfl,rfl⟩:=H
    go_wp2
    go_ret3
    exact⟨by rfl,HB.out⟩
   ·replace c8:=Bool.eq_false_iff.mpr c8
    subst c8
    have H1:(if 0≤a1 then(if a1≤(a0.size:Int)then(if(a0.extract (a1:Int).toNat a0.size).toList=([]:List UInt8)then(some ((⟨#[]⟩:ByteArray),0,10))else(if 0< ((a0.extract (a1:Int).toNat a0.size).size:Int)then(if(bt (a0.extract (a1:Int).toNat a0.size) 0)=231 then(if((a0.extract (a1:Int).toNat a0.size).size:Int)=1 then(some ((⟨#[]⟩:ByteArray),0,10))else(if 1< ((a0.extract (a1:Int).toNat a0.size).size:Int)then(if(wrap64 (bt (a0.extract (a1:Int).toNat a0.size) 1))=a2 then((ententeref01_TakeNumber.f a4 (a0.extract (a1:Int).toNat a0.size) 2).bind fun aA=> (if aA.2.2=0 then(if aA.1> 30000 then(some ((⟨#[]⟩:ByteArray),0,3))else(if(wrap64 (((a0.extract (a1:Int).toNat a0.size).size:Int) - aA.2.1))< (wrap64 ((wrap64 (aA.1))+8))then(some ((⟨#[]⟩:ByteArray),0,10))else(if 0≤aA.2.1 then(if aA.2.1≤(wrap64 (aA.2.1+(wrap64 (aA.1))))then(if(wrap64 (aA.2.1+(wrap64 (aA.1))))≤((a0.extract (a1:Int).toNat a0.size).size:Int)then((ententeref02_Seal.f a4 a2 ((a0.extract (a1:Int).toNat a0.size).extract (aA.2.1:Int).toNat ((wrap64 (aA.2.1+(wrap64 (aA.1)))):Int).toNat)).bind fun aF=> (if 0≤(wrap64 ((wrap64 (aA.2.1+(wrap64 (aA.1))))+8))then(if(wrap64 ((wrap64 (aA.2.1+(wrap64 (aA.1))))+8))≤((a0.extract (a1:Int).toNat a0.size).size:Int)then(if aF.1.toList=((a0.extract (a1:Int).toNat a0.size).extract 0 ((wrap64 ((wrap64 (aA.2.1+(wrap64 (aA.1))))+8)):Int).toNat).toList then(some ((a0.extract (a1:Int).toNat a0.size).extract (aA.2.1:Int).toNat ((wrap64 (aA.2.1+(wrap64 (aA.1)))):Int).toNat,wrap64 (a1+(aF.1.size:Int)),0))else(some ((⟨#[]⟩:ByteArray),0,22)))else(none))else(none)))else(none))else(none))else(none))))else(some ((⟨#[]⟩:ByteArray),0,aA.2.2))))else(some ((⟨#[]⟩:ByteArray),0,21)))else(none)))else(some ((⟨#[]⟩:ByteArray),0,20)))else(none)))else(none))else(none))=some (r1,r2,r3):=by rw[if_neg (show ¬ (false=true)by decide)]at H;exact H
    clear H
    have H:=H1
    clear H1
    by_cases c9:0≤a1
    ·rw[if_pos c9]at H
     have cS:=eq_true c9
     have cT:=decide_eq_true c9
     clear c9
     by_cases c10:a1≤(a0.size:Int)
     ·rw[if_pos c10]at H
      have cH:=eq_true c10
      have cI:=decide_eq_true c10
      clear c10
      by_cases a5:(a0.extract (a1:Int).toNat a0.size).toList=([]:List UInt8)
      ·rw[if_pos a5]at H
       have bF:=beq_iff_eq.mpr a5
       have bG:=bne_eq_false_iff_eq.mpr a5
       have bH:(a0.extract (a1:Int).toNat a0.size).toList.isEmpty=true:=by simpa using a5
       clear a5
       simp only[Option.some.injEq,Prod.mk.injEq]at H
       obtain⟨rfl,rfl,rfl⟩:=H
       go_wp2
       go_ret3
       exact⟨by rfl,HB.out⟩
      ·rw[if_neg a5]at H
       have bF:=beq_eq_false_iff_ne.mpr a5
       have bG:=bne_iff_ne.mpr a5
       have bH:(a0.extract (a1:Int).toNat a0.size).toList.isEmpty=false:=by simpa using a5
       by_cases b3:0< ((a0.extract (a1:Int).toNat a0.size).size:Int)
       ·rw[if_pos b3]at H
        have bI:=decide_eq_true b3
        have aO:=bI;simp only[ByteArray.size_extract,Nat.min_self]at aO
        have cA:=eq_true (of_decide_eq_true aO)
        have bJ:decide (0< (a0.extract (a1:Int).toNat a0.size).size)=true:=decide_eq_true (by omega)
        have aP:=bJ;simp only[ByteArray.size_extract,Nat.min_self]at aP
        have cB:=eq_true (of_decide_eq_true aP)
        clear b3
        by_cases a6:(bt (a0.extract (a1:Int).toNat a0.size) 0)=231
        ·rw[if_pos a6]at H
         have bK:=beq_iff_eq.mpr a6
         have bL:=bne_eq_false_iff_eq.mpr a6
         clear a6
         by_cases a7:((a0.extract (a1:Int).toNat a0.size).size:Int)=1
         ·rw[if_pos a7]at H
          have aQ:=beq_iff_eq.mpr a7
          have aH:=aQ;simp only[ByteArray.size_extract,Nat.min_self]at aH
          have aR:=bne_eq_false_iff_eq.mpr a7
          have aI:=aR;simp only[ByteArray.size_extract,Nat.min_self]at aI
          clear a7
          simp only[Option.some.injEq,Prod.mk.injEq]at H
          obtain⟨rfl,rfl,rfl⟩:=H
          have aJ:0≤(0:Int):=(by omega)
          have aD:0< (a0.extract (a1:Int).toNat a0.size).size:=(by have:(0:Int)< ((a0.extract (a1:Int).toNat a0.size).size:Int):=of_decide_eq_true (by(with_reducible assumption));omega)
          have aK:∀ h:0< (a0.extract (a1:Int).toNat a0.size).size,(((a0.extract (a1:Int).toNat a0.size)[0]'h).toNat:Int)=bt (a0.extract (a1:Int).toNat a0.size) 0:=bt_at (a0.extract (a1:Int).toNat a0.size) 0
          clear aJ
          have aL:(0< ((a0.extract (a1:Int).toNat a0.size).size:Int))=True:=eq_true (of_decide_eq_true (by(with_reducible assumption)))
          replace aD:=eq_true aD
          go_wp2
          go_ret3
          exact⟨by rfl,HB.out⟩
         ·rw[if_neg a7]at H
          have aQ:=beq_eq_false_iff_ne.mpr a7
          have aH:=aQ;simp only[ByteArray.size_extract,Nat.min_self]at aH
          have aR:=bne_iff_ne.mpr a7
          have aI:=aR;simp only[ByteArray.size_extract,Nat.min_self]at aI
          by_cases b4:1< ((a0.extract (a1:Int).toNat a0.size).size:Int)
          ·rw[if_pos b4]at H
           have bM:=decide_eq_true b4
           have aS:=bM;simp only[ByteArray.size_extract,Nat.min_self]at aS
           have cC:=eq_true (of_decide_eq_true aS)
           have bN:decide (1< (a0.extract (a1:Int).toNat a0.size).size)=true:=decide_eq_true (by omega)
           have aT:=bN;simp only[ByteArray.size_extract,Nat.min_self]at aT
           have cD:=eq_true (of_decide_eq_true aT)
           clear b4
           by_cases a8:(wrap64 (bt (a0.extract (a1:Int).toNat a0.size) 1))=a2
           ·rw[if_pos a8]at H
            have bO:=beq_iff_eq.mpr a8
            have bP:=bne_eq_false_iff_eq.mpr a8
            clear a8
            obtain⟨⟨aC,aB,aN⟩,bQ,H⟩:=Option.bind_eq_some_iff.mp H
            try dsimp only at H
            have bC:=am bQ
            clear bQ
            by_cases a9:aN=0
            ·rw[if_pos a9]at H
             have bR:=beq_iff_eq.mpr a9
             have bS:=bne_eq_false_iff_eq.mpr a9
             clear a9
             by_cases bD:aC> 30000
             ·rw[if_pos bD]at H
              have bT:decide (30000< aC)=true:=decide_eq_true bD
              clear bD
              simp only[Option.some.injEq,Prod.mk.injEq]at H
              obtain⟨rfl,rfl,rfl⟩:=H
              have aJ:0≤(0:Int):=(by omega)
              have aD:0< (a0.extract (a1:Int).toNat a0.size).size:=(by have:(0:Int)< ((a0.extract (a1:Int).toNat a0.size).size:Int):=of_decide_eq_true (by(with_reducible assumption));omega)
              have aK:∀ h:0< (a0.extract (a1:Int).toNat a0.size).size,(((a0.extract (a1:Int).toNat a0.size)[0]'h).toNat:Int)=bt (a0.extract (a1:Int).toNat a0.size) 0:=bt_at (a0.extract (a1:Int).toNat a0.size) 0
              clear aJ
              have aL:(0< ((a0.extract (a1:Int).toNat a0.size).size:Int))=True:=eq_true (of_decide_eq_true (by(with_reducible assumption)))
              replace aD:=eq_true aD
              have aU:0≤(1:Int):=(by omega)
              have aG:1< (a0.extract (a1:Int).toNat a0.size).size:=(by have:(1:Int)< ((a0.extract (a1:Int).toNat a0.size).size:Int):=of_decide_eq_true (by(with_reducible assumption));omega)
              have aV:∀ h:1< (a0.extract (a1:Int).toNat a0.size).size,(((a0.extract (a1:Int).toNat a0.size)[1]'h).toNat:Int)=bt (a0.extract (a1:Int).toNat a0.size) 1:=bt_at (a0.extract (a1:Int).toNat a0.size) 1
              clear aU
              have aW:(1< ((a0.extract (a1:Int).toNat a0.size).size:Int))=True:=eq_true (of_decide_eq_true (by(with_reducible assumption)))
              replace aG:=eq_true aG
              go_wp2_with (first|((with_reducible refine gate_callee (f:=55) rfl ?_);refine goesL_ (some 50) rfl rfl Tryz.func55 (by kernel_rfl) rfl #[.string (a0.extract (a1:Int).toNat a0.size),i6 2] rfl (by(try simp only[l_m,l_c,l_n]);rfl) ?_;(with_reducible refine(ententeref01_TakeNumber.calls a4 (a0.extract (a1:Int).toNat a0.size) 2 aC aB aN _ bC.out).mono ?_);rintro e cV ⟨rfl,hb⟩;refine⟨_,rfl,?_⟩;replace HB:=am (below_step (HB.out) hb);clear hb))
              go_ret3
              exact⟨by rfl,HB.out⟩
             ·rw[if_neg bD]at H
              have bT:decide (30000< aC)=false:=decide_eq_false bD
              clear bD
              by_cases bE:(wrap64 (((a0.extract (a1:Int).toNat a0.size).size:Int) - aB))< (wrap64 ((wrap64 (aC))+8))
              ·rw[if_pos bE]at H
               have aX:=decide_eq_true bE
               have aE:=aX;simp only[ByteArray.size_extract,Nat.min_self]at aE
               have bA:=eq_true (of_decide_eq_true aE)
               clear bE
               simp only[Option.some.injEq,Prod.mk.injEq]at H
               obtain⟨rfl,rfl,rfl⟩:=H
               have aJ:0≤(0:Int):=(by omega)
               have aD:0< (a0.extract (a1:Int).toNat a0.size).size:=(by have:(0:Int)< ((a0.extract (a1:Int).toNat a0.size).size:Int):=of_decide_eq_true (by(with_reducible assumption));omega)
               have aK:∀ h:0< (a0.extract (a1:Int).toNat a0.size).size,(((a0.extract (a1:Int).toNat a0.size)[0]'h).toNat:Int)=bt (a0.extract (a1:Int).toNat a0.size) 0:=bt_at (a0.extract (a1:Int).toNat a0.size) 0
               clear aJ
               have aL:(0< ((a0.extract (a1:Int).toNat a0.size).size:Int))=True:=eq_true (of_decide_eq_true (by(with_reducible assumption)))
               replace aD:=eq_true aD
               have aU:0≤(1:Int):=(by omega)
               have aG:1< (a0.extract (a1:Int).toNat a0.size).size:=(by have:(1:Int)< ((a0.extract (a1:Int).toNat a0.size).size:Int):=of_decide_eq_true (by(with_reducible assumption));omega)
               have aV:∀ h:1< (a0.extract (a1:Int).toNat a0.size).size,(((a0.extract (a1:Int).toNat a0.size)[1]'h).toNat:Int)=bt (a0.extract (a1:Int).toNat a0.size) 1:=bt_at (a0.extract (a1:Int).toNat a0.size) 1
               clear aU
               have aW:(1< ((a0.extract (a1:Int).toNat a0.size).size:Int))=True:=eq_true (of_decide_eq_true (by(with_reducible assumption)))
               replace aG:=eq_true aG
               go_wp2_with (first|((with_reducible refine gate_callee (f:=55) rfl ?_);refine goesL_ (some 50) rfl rfl Tryz.func55 (by kernel_rfl) rfl #[.string (a0.extract (a1:Int).toNat a0.size),i6 2] rfl (by(try simp only[l_m,l_c,l_n]);rfl) ?_;(with_reducible refine(ententeref01_TakeNumber.calls a4 (a0.extract (a1:Int).toNat a0.size) 2 aC aB aN _ bC.out).mono ?_);rintro e cW ⟨rfl,hb⟩;refine⟨_,rfl,?_⟩;replace HB:=am (below_step (HB.out) hb);clear hb))
               go_ret3
               exact⟨by rfl,HB.out⟩
              ·rw[if_neg bE]at H
               have aX:=decide_eq_false bE
               have aE:=aX;simp only[ByteArray.size_extract,Nat.min_self]at aE
               have bA:=eq_false (of_decide_eq_false aE)
               clear bE
               by_cases bU:0≤aB
               ·rw[if_pos bU]at H
                have cJ:=eq_true bU
                have cK:=decide_eq_true bU
                clear bU
                by_cases b5:aB≤(wrap64 (aB+(wrap64 (aC))))
                ·rw[if_pos b5]at H
                 have cL:=eq_true b5
                 have cM:=decide_eq_true b5
                 by_cases b6:(wrap64 (aB+(wrap64 (aC))))≤((a0.extract (a1:Int).toNat a0.size).size:Int)
                 ·rw[if_pos b6]at H
                  have cN:=eq_true b6
                  have bV:=decide_eq_true b6
                  have aY:=bV;simp only[ByteArray.size_extract,Nat.min_self]at aY
                  have cE:=eq_true (of_decide_eq_true aY)
                  obtain⟨⟨aZ,bW⟩,bX,H⟩:=Option.bind_eq_some_iff.mp H
                  try dsimp only at H
                  have cF:=am bX
                  clear bX
                  obtain⟨ji29,hji29⟩:∃ j_:Int,(wrap64 ((wrap64 (aB+(wrap64 (aC))))+8))=j_:=⟨_,rfl⟩
                  replace H:(if 0≤(ji29)then(if(ji29)≤((a0.extract (a1:Int).toNat a0.size).size:Int)then(if aZ.toList=((a0.extract (a1:Int).toNat a0.size).extract 0 ((ji29):Int).toNat).toList then(some ((a0.extract (a1:Int).toNat a0.size).extract (aB:Int).toNat ((wrap64 (aB+(wrap64 (aC)))):Int).toNat,wrap64 (a1+(aZ.size:Int)),0))else(some ((⟨#[]⟩:ByteArray),0,22)))else(none))else(none))=some (r1,r2,r3):=by(rw[hji29]at H;exact H)
                  (try rw[hji29]at bC)
                  (try rw[hji29]at cF)
                  have hji29w:(IntKind.i64.wrap ((wrap64 (aB+(wrap64 (aC))))+8))=ji29:=(i64_w _).trans hji29
                  by_cases bY:0≤(ji29)
                  ·rw[if_pos bY]at H
                   have cO:=eq_true bY
                   have cP:=decide_eq_true bY
                   clear bY
                   by_cases bZ:(ji29)≤((a0.extract (a1:Int).toNat a0.size).size:Int)
                   ·rw[if_pos bZ]at H
                    have cQ:=eq_true bZ
                    have b0:=decide_eq_true bZ
                    have a3:=b0;simp only[ByteArray.size_extract,Nat.min_self]at a3
                    have cG:=eq_true (of_decide_eq_true a3)
                    clear bZ
                    by_cases bB:aZ.toList=((a0.extract (a1:Int).toNat a0.size).extract 0 ((ji29):Int).toNat).toList
                    ·rw[if_pos bB]at H
                     have b1:=beq_iff_eq.mpr bB
                     have b2:=bne_eq_false_iff_eq.mpr bB
                     clear bB
                     simp only[Option.some.injEq,Prod.mk.injEq]at H
                     obtain⟨rfl,rfl,rfl⟩:=H
                     have aJ:0≤(0:Int):=(by omega)
                     have aD:0< (a0.extract (a1:Int).toNat a0.size).size:=(by have:(0:Int)< ((a0.extract (a1:Int).toNat a0.size).size:Int):=of_decide_eq_true (by(with_reducible assumption));omega)
                     have aK:∀ h:0< (a0.extract (a1:Int).toNat a0.size).size,(((a0.extract (a1:Int).toNat a0.size)[0]'h).toNat:Int)=bt (a0.extract (a1:Int).toNat a0.size) 0:=bt_at (a0.extract (a1:Int).toNat a0.size) 0
                     clear aJ
                     have aL:(0< ((a0.extract (a1:Int).toNat a0.size).size:Int))=True:=eq_true (of_decide_eq_true (by(with_reducible assumption)))
                     replace aD:=eq_true aD
                     have aU:0≤(1:Int):=(by omega)
                     have aG:1< (a0.extract (a1:Int).toNat a0.size).size:=(by have:(1:Int)< ((a0.extract (a1:Int).toNat a0.size).size:Int):=of_decide_eq_true (by(with_reducible assumption));omega)
                     have aV:∀ h:1< (a0.extract (a1:Int).toNat a0.size).size,(((a0.extract (a1:Int).toNat a0.size)[1]'h).toNat:Int)=bt (a0.extract (a1:Int).toNat a0.size) 1:=bt_at (a0.extract (a1:Int).toNat a0.size) 1
                     clear aU
                     have aW:(1< ((a0.extract (a1:Int).toNat a0.size).size:Int))=True:=eq_true (of_decide_eq_true (by(with_reducible assumption)))
                     replace aG:=eq_true aG
                     go_wp2_with (first|((with_reducible refine gate_callee (f:=55) rfl ?_);refine goesL_ (some 50) rfl rfl Tryz.func55 (by kernel_rfl) rfl #[.string (a0.extract (a1:Int).toNat a0.size),i6 2] rfl (by(try simp only[l_m,l_c,l_n]);rfl) ?_;(with_reducible refine(ententeref01_TakeNumber.calls a4 (a0.extract (a1:Int).toNat a0.size) 2 aC aB aN _ bC.out).mono ?_);rintro e cX ⟨rfl,hb⟩;refine⟨_,rfl,?_⟩;replace HB:=am (below_step (HB.out) hb);clear hb)|((with_reducible refine gate_callee (f:=25) rfl ?_);refine goesL_ (some 77) rfl rfl Tryz.func25 (by kernel_rfl) rfl #[i6 a2,.string ((a0.extract (a1:Int).toNat a0.size).extract (aB:Int).toNat ((wrap64 (aB+(wrap64 (aC)))):Int).toNat)] rfl (by(try simp only[l_m,l_c,l_n]);rfl) ?_;(with_reducible refine(ententeref02_Seal.calls a4 a2 ((a0.extract (a1:Int).toNat a0.size).extract (aB:Int).toNat ((wrap64 (aB+(wrap64 (aC)))):Int).toNat) aZ bW _ cF.out).mono ?_);rintro e cY ⟨rfl,hb⟩;refine⟨_,rfl,?_⟩;replace HB:=am (below_step (HB.out) hb);clear hb))
                     go_ret3
                     exact⟨by first|rfl|(simp[errW_none,errW_some]<;> rfl)|(simp only[← hji29];first|rfl|(simp[errW_none,errW_some]<;> rfl))|(simp[*,errW_none,errW_some]<;> rfl),HB.out⟩
                    ·rw[if_neg bB]at H
                     have b1:=beq_eq_false_iff_ne.mpr bB
                     have b2:=bne_iff_ne.mpr bB
                     simp only[Option.some.injEq,Prod.mk.injEq]at H
                     obtain⟨rfl,rfl,rfl⟩:=H
                     have aJ:0≤(0:Int):=(by omega)
                     have aD:0< (a0.extract (a1:Int).toNat a0.size).size:=(by have:(0:Int)< ((a0.extract (a1:Int).toNat a0.size).size:Int):=of_decide_eq_true (by(with_reducible assumption));omega)
                     have aK:∀ h:0< (a0.extract (a1:Int).toNat a0.size).size,(((a0.extract (a1:Int).toNat a0.size)[0]'h).toNat:Int)=bt (a0.extract (a1:Int).toNat a0.size) 0:=bt_at (a0.extract (a1:Int).toNat a0.size) 0
                     clear aJ
                     have aL:(0< ((a0.extract (a1:Int).toNat a0.size).size:Int))=True:=eq_true (of_decide_eq_true (by(with_reducible assumption)))
                     replace aD:=eq_true aD
                     have aU:0≤(1:Int):=(by omega)
                     have aG:1< (a0.extract (a1:Int).toNat a0.size).size:=(by have:(1:Int)< ((a0.extract (a1:Int).toNat a0.size).size:Int):=of_decide_eq_true (by(with_reducible assumption));omega)
                     have aV:∀ h:1< (a0.extract (a1:Int).toNat a0.size).size,(((a0.extract (a1:Int).toNat a0.size)[1]'h).toNat:Int)=bt (a0.extract (a1:Int).toNat a0.size) 1:=bt_at (a0.extract (a1:Int).toNat a0.size) 1
                     clear aU
                     have aW:(1< ((a0.extract (a1:Int).toNat a0.size).size:Int))=True:=eq_true (of_decide_eq_true (by(with_reducible assumption)))
                     replace aG:=eq_true aG
                     go_wp2_with (first|((with_reducible refine gate_callee (f:=55) rfl ?_);refine goesL_ (some 50) rfl rfl Tryz.func55 (by kernel_rfl) rfl #[.string (a0.extract (a1:Int).toNat a0.size),i6 2] rfl (by(try simp only[l_m,l_c,l_n]);rfl) ?_;(with_reducible refine(ententeref01_TakeNumber.calls a4 (a0.extract (a1:Int).toNat a0.size) 2 aC aB aN _ bC.out).mono ?_);rintro e cZ ⟨rfl,hb⟩;refine⟨_,rfl,?_⟩;replace HB:=am (below_step (HB.out) hb);clear hb)|((with_reducible refine gate_callee (f:=25) rfl ?_);refine goesL_ (some 77) rfl rfl Tryz.func25 (by kernel_rfl) rfl #[i6 a2,.string ((a0.extract (a1:Int).toNat a0.size).extract (aB:Int).toNat ((wrap64 (aB+(wrap64 (aC)))):Int).toNat)] rfl (by(try simp only[l_m,l_c,l_n]);rfl) ?_;(with_reducible refine(ententeref02_Seal.calls a4 a2 ((a0.extract (a1:Int).toNat a0.size).extract (aB:Int).toNat ((wrap64 (aB+(wrap64 (aC)))):Int).toNat) aZ bW _ cF.out).mono ?_);rintro e c0 ⟨rfl,hb⟩;refine⟨_,rfl,?_⟩;replace HB:=am (below_step (HB.out) hb);clear hb))
                     go_ret3
                     exact⟨by first|rfl|(simp[errW_none,errW_some]<;> rfl)|(simp only[← hji29];first|rfl|(simp[errW_none,errW_some]<;> rfl))|(simp[*,errW_none,errW_some]<;> rfl),HB.out⟩
                   ·rw[if_neg bZ]at H
                    exact absurd H (by simp)
                  ·rw[if_neg bY]at H
                   exact absurd H (by simp)
                 ·rw[if_neg b6]at H
                  exact absurd H (by simp)
                ·rw[if_neg b5]at H
                 exact absurd H (by simp)
               ·rw[if_neg bU]at H
                exact absurd H (by simp)
            ·rw[if_neg a9]at H
             have bR:=beq_eq_false_iff_ne.mpr a9
             have bS:=bne_iff_ne.mpr a9
             simp only[Option.some.injEq,Prod.mk.injEq]at H
             obtain⟨rfl,rfl,rfl⟩:=H
             have aJ:0≤(0:Int):=(by omega)
             have aD:0< (a0.extract (a1:Int).toNat a0.size).size:=(by have:(0:Int)< ((a0.extract (a1:Int).toNat a0.size).size:Int):=of_decide_eq_true (by(with_reducible assumption));omega)
             have aK:∀ h:0< (a0.extract (a1:Int).toNat a0.size).size,(((a0.extract (a1:Int).toNat a0.size)[0]'h).toNat:Int)=bt (a0.extract (a1:Int).toNat a0.size) 0:=bt_at (a0.extract (a1:Int).toNat a0.size) 0
             clear aJ
             have aL:(0< ((a0.extract (a1:Int).toNat a0.size).size:Int))=True:=eq_true (of_decide_eq_true (by(with_reducible assumption)))
             replace aD:=eq_true aD
             have aU:0≤(1:Int):=(by omega)
             have aG:1< (a0.extract (a1:Int).toNat a0.size).size:=(by have:(1:Int)< ((a0.extract (a1:Int).toNat a0.size).size:Int):=of_decide_eq_true (by(with_reducible assumption));omega)
             have aV:∀ h:1< (a0.extract (a1:Int).toNat a0.size).size,(((a0.extract (a1:Int).toNat a0.size)[1]'h).toNat:Int)=bt (a0.extract (a1:Int).toNat a0.size) 1:=bt_at (a0.extract (a1:Int).toNat a0.size) 1
             clear aU
             have aW:(1< ((a0.extract (a1:Int).toNat a0.size).size:Int))=True:=eq_true (of_decide_eq_true (by(with_reducible assumption)))
             replace aG:=eq_true aG
             go_wp2_with (first|((with_reducible refine gate_callee (f:=55) rfl ?_);refine goesL_ (some 50) rfl rfl Tryz.func55 (by kernel_rfl) rfl #[.string (a0.extract (a1:Int).toNat a0.size),i6 2] rfl (by(try simp only[l_m,l_c,l_n]);rfl) ?_;(with_reducible refine(ententeref01_TakeNumber.calls a4 (a0.extract (a1:Int).toNat a0.size) 2 aC aB aN _ bC.out).mono ?_);rintro e c1 ⟨rfl,hb⟩;refine⟨_,rfl,?_⟩;replace HB:=am (below_step (HB.out) hb);clear hb))
             go_ret3
             exact⟨by rfl,HB.out⟩
           ·rw[if_neg a8]at H
            have bO:=beq_eq_false_iff_ne.mpr a8
            have bP:=bne_iff_ne.mpr a8
            simp only[Option.some.injEq,Prod.mk.injEq]at H
            obtain⟨rfl,rfl,rfl⟩:=H
            have aJ:0≤(0:Int):=(by omega)
            have aD:0< (a0.extract (a1:Int).toNat a0.size).size:=(by have:(0:Int)< ((a0.extract (a1:Int).toNat a0.size).size:Int):=of_decide_eq_true (by(with_reducible assumption));omega)
            have aK:∀ h:0< (a0.extract (a1:Int).toNat a0.size).size,(((a0.extract (a1:Int).toNat a0.size)[0]'h).toNat:Int)=bt (a0.extract (a1:Int).toNat a0.size) 0:=bt_at (a0.extract (a1:Int).toNat a0.size) 0
            clear aJ
            have aL:(0< ((a0.extract (a1:Int).toNat a0.size).size:Int))=True:=eq_true (of_decide_eq_true (by(with_reducible assumption)))
            replace aD:=eq_true aD
            have aU:0≤(1:Int):=(by omega)
            have aG:1< (a0.extract (a1:Int).toNat a0.size).size:=(by have:(1:Int)< ((a0.extract (a1:Int).toNat a0.size).size:Int):=of_decide_eq_true (by(with_reducible assumption));omega)
            have aV:∀ h:1< (a0.extract (a1:Int).toNat a0.size).size,(((a0.extract (a1:Int).toNat a0.size)[1]'h).toNat:Int)=bt (a0.extract (a1:Int).toNat a0.size) 1:=bt_at (a0.extract (a1:Int).toNat a0.size) 1
            clear aU
            have aW:(1< ((a0.extract (a1:Int).toNat a0.size).size:Int))=True:=eq_true (of_decide_eq_true (by(with_reducible assumption)))
            replace aG:=eq_true aG
            go_wp2
            go_ret3
            exact⟨by rfl,HB.out⟩
          ·rw[if_neg b4]at H
           exact absurd H (by simp)
        ·rw[if_neg a6]at H
         have bK:=beq_eq_false_iff_ne.mpr a6
         have bL:=bne_iff_ne.mpr a6
         simp only[Option.some.injEq,Prod.mk.injEq]at H
         obtain⟨rfl,rfl,rfl⟩:=H
         have aJ:0≤(0:Int):=(by omega)
         have aD:0< (a0.extract (a1:Int).toNat a0.size).size:=(by have:(0:Int)< ((a0.extract (a1:Int).toNat a0.size).size:Int):=of_decide_eq_true (by(with_reducible assumption));omega)
         have aK:∀ h:0< (a0.extract (a1:Int).toNat a0.size).size,(((a0.extract (a1:Int).toNat a0.size)[0]'h).toNat:Int)=bt (a0.extract (a1:Int).toNat a0.size) 0:=bt_at (a0.extract (a1:Int).toNat a0.size) 0
         clear aJ
         have aL:(0< ((a0.extract (a1:Int).toNat a0.size).size:Int))=True:=eq_true (of_decide_eq_true (by(with_reducible assumption)))
         replace aD:=eq_true aD
         go_wp2
         go_ret3
         exact⟨by rfl,HB.out⟩
       ·rw[if_neg b3]at H
        exact absurd H (by simp)
     ·rw[if_neg c10]at H
      exact absurd H (by simp)
    ·rw[if_neg c9]at H
     exact absurd H (by simp)

/-! ### ententeref13_numbers: function 32 -/
def ententeref13_numbers.l0:Nat→ByteArray→Int→Int→List Int→Int→Option (List Int×Int×Bool)
 |0,_,_,_,_,_=> none
 |k+1,x0,x1,x2,x9,aT=> if aT< x2 then((ententeref01_TakeNumber.f k x0 x1).bind fun aE=> (if aE.2.2=0 then(if aE.1> 1000000000 then(some (([]:List Int),0,false))else(if x9.length< 17592186044416 then(ententeref13_numbers.l0 k x0 aE.2.1 x2 (x9++[wrap64 (aE.1)]) (wrap64 (aT+1)))else(none)))else(some (([]:List Int),0,false))))else(some (x9,x1,true))
def ententeref13_numbers.f (k:Nat) (a0:ByteArray) (a1:Int) (a2:Int):Option (List Int×Int×Bool):=ententeref13_numbers.l0 k a0 a1 a2 ([]:List Int) 0
set_option maxHeartbeats 8000000 in
set_option maxRecDepth 100000 in
theorem ententeref13_numbers.calls (k:Nat) (a0:ByteArray) (a1:Int) (a2:Int) (r1:List Int) (r2:Int) (r3:Bool) (w:World) (h:ententeref13_numbers.f k a0 a1 a2=some (r1,r2,r3)) :
  Calls Tryz.prog 32 #[.string a0,i6 a1,i6 a2] w fun e w'=> ∃ v0_:Value,e=.returned (.tuple #[v0_,i6 r2,.bool r3])∧Kd.R (Kd.int .i64) 3 w' w.heap.size (fun _=> True) v0_ r1∧Below w.heap.size w w':=by
 have HB:=am (Below.refl w.heap.size w)
 unfold ententeref13_numbers.f at h
 have H:=h
 clear h
 have H':=am H
 clear H
 go_enter Tryz.func32,Tryz.ntmps32
 go_wp2
 go_loopg [1,9,10] k (fun kq v1 v9 v10 w'=> ∃ (aC:Int) (aG:List Int) (aA:Int),v1=i6 aC∧v10=i6 aA∧Aside0 (ententeref13_numbers.l0 kq a0 aC a2 aG aA=some (r1,r2,r3))∧Aside0 (kq≤k)∧Aside0 (Kd.R (Kd.int .i64) 3 w' w.heap.size (fun _=> True) v9 aG)∧Aside0 (Below w.heap.size w w'))
 case atStart=> exact⟨(a1),(([]:List Int)),(0),(by rfl),(by rfl),H',⟨Nat.le_refl _⟩,⟨by exact Kd.R_nil _ _ _ _ _⟩,⟨HB.out⟩⟩
 case round=>
  clear H'
  obtain⟨aC,aG,aA,rfl,rfl,HA,aU,HO_9,HB⟩:=hrel
  cases gk with
  |zero=> exact absurd HA.out (by simp[ententeref13_numbers.l0])
  |succ k1=>
   have H:=HA.out
   clear HA
   simp only[ententeref13_numbers.l0]at H
   by_cases c4:aA< a2
   ·rw[if_pos c4]at H
    have aM:=decide_eq_true c4
    clear c4
    obtain⟨⟨aD,aH,aI⟩,aV,H⟩:=Option.bind_eq_some_iff.mp H
    try dsimp only at H
    have A5:=am aV
    clear aV
    by_cases c6:aI=0
    ·rw[if_pos c6]at H
     have aN:=beq_iff_eq.mpr c6
     have aQ:=bne_eq_false_iff_eq.mpr c6
     clear c6
     by_cases c7:aD> 1000000000
     ·rw[if_pos c7]at H
      have aR:decide (1000000000< aD)=true:=decide_eq_true c7
      clear c7
      simp only[Option.some.injEq,Prod.mk.injEq]at H
      obtain⟨rfl,rfl,rfl⟩:=H
      go_wp2_with (first|((with_reducible refine gate_callee (f:=55) rfl ?_);refine goesL_ (some 22) rfl rfl Tryz.func55 (by kernel_rfl) rfl #[.string a0,i6 aC] rfl (by(try simp only[l_m,l_c,l_n]);rfl) ?_;(with_reducible refine(ententeref01_TakeNumber.calls k1 a0 aC aD aH aI _ A5.out).mono ?_);rintro e w8 ⟨rfl,hb⟩;refine⟨_,rfl,?_⟩;replace HO_9:=am (Kd.R_below (by exact HO_9.out) hb);replace HB:=am (below_step (HB.out) hb);clear hb))
      go_ret3
      exact⟨_,by rfl,by exact Kd.R_nil _ _ _ _ _,HB.out⟩
     ·rw[if_neg c7]at H
      have aR:decide (1000000000< aD)=false:=decide_eq_false c7
      clear c7
      by_cases c9:aG.length< 17592186044416
      ·rw[if_pos c9]at H
       have LMc9:=am c9
       clear c9
       obtain⟨aJ,hy419⟩:∃ y_:List Int,y_=(aG++[wrap64 (aD)]):=⟨_,rfl⟩
       replace H:(ententeref13_numbers.l0 k1 a0 aH a2 aJ (wrap64 (aA+1)))=some (r1,r2,r3):=by(rw[hy419];with_reducible exact H)
       have Ny419:=am hy419
       clear hy419
       have H':=am H
       clear H
       go_wp2_with (first|((with_reducible refine gate_callee (f:=55) rfl ?_);refine goesL_ (some 22) rfl rfl Tryz.func55 (by kernel_rfl) rfl #[.string a0,i6 aC] rfl (by(try simp only[l_m,l_c,l_n]);rfl) ?_;(with_reducible refine(ententeref01_TakeNumber.calls k1 a0 aC aD aH aI _ A5.out).mono ?_);rintro e aW ⟨rfl,hb⟩;refine⟨_,rfl,?_⟩;replace HO_9:=am (Kd.R_below (by exact HO_9.out) hb);replace HB:=am (below_step (HB.out) hb);clear hb)|((with_reducible refine gate_builtin (b:=.append) (xs:=#[.tmp 32,.tmp 35]) rfl ?_);at_builtin;refine Kd.R_append (Kd.int .i64) (w0:=w) w.heap.size rfl (.tmp 32) (.tmp 35) 54 3 (i6 0) 8 rfl Tryz.underlying54 info3 rfl (by decide) (by omega) u9 aG (wrap64 (aD)) [i6 (wrap64 (aD))] (fun _=> True) (fun _=> False) rfl rfl ?aP (fun _ hk=> hk.elim) ?aF ?aO ?aB ?aS ?aL ?_;(case aP=> exact rfl);(case aB=> exact(HB.out));(case aF=> exact(fun _ _=> trivial));(case aO=> exact(by exact HO_9.out));(case aS=> exact(below_size (HB.out)));(case aL=> have:=LMc9.out;omega);intro v420 aX ho hb hg hat;rw[← Ny419.out]at ho;replace HB:=am (hb);have aK:=am (ho);clear HO_9;clear ho hb hg hat))
       go_roundg k1
       case measure=> have:=aU.out;omega
       case rel=> exact⟨(aH),(aJ),(wrap64 (aA+1)),(by rfl),(by rfl),H',⟨by have:=aU.out;omega⟩,⟨by exact aK.out⟩,⟨HB.out⟩⟩
      ·rw[if_neg c9]at H
       exact absurd H (by simp)
    ·rw[if_neg c6]at H
     have aN:=beq_eq_false_iff_ne.mpr c6
     have aQ:=bne_iff_ne.mpr c6
     simp only[Option.some.injEq,Prod.mk.injEq]at H
     obtain⟨rfl,rfl,rfl⟩:=H
     go_wp2_with (first|((with_reducible refine gate_callee (f:=55) rfl ?_);refine goesL_ (some 22) rfl rfl Tryz.func55 (by kernel_rfl) rfl #[.string a0,i6 aC] rfl (by(try simp only[l_m,l_c,l_n]);rfl) ?_;(with_reducible refine(ententeref01_TakeNumber.calls k1 a0 aC aD aH aI _ A5.out).mono ?_);rintro e aY ⟨rfl,hb⟩;refine⟨_,rfl,?_⟩;replace HO_9:=am (Kd.R_below (by exact HO_9.out) hb);replace HB:=am (below_step (HB.out) hb);clear hb))
     go_ret3
     exact⟨_,by rfl,by exact Kd.R_nil _ _ _ _ _,HB.out⟩
   ·rw[if_neg c4]at H
    have aM:=decide_eq_false c4
    clear c4
    simp only[Option.some.injEq,Prod.mk.injEq]at H
    obtain⟨rfl,rfl,rfl⟩:=H
    go_wp2
    go_ret3
    exact⟨_,by rfl,by exact HO_9.out,HB.out⟩

/-! ### ententeref01_TakeText: function 33 -/
def ententeref01_TakeText.f (k:Nat) (a0:ByteArray) (a1:Int):Option (ByteArray×Int×Int):=(ententeref01_TakeNumber.f k a0 a1).bind fun aA=> (if aA.2.2=0 then(if aA.1> (IntKind.u64.wrap (wrap64 ((a0.size:Int) - aA.2.1)))then(some ((⟨#[]⟩:ByteArray),0,10))else(if 0≤aA.2.1 then(if aA.2.1≤(wrap64 (aA.2.1+(wrap64 (aA.1))))then(if(wrap64 (aA.2.1+(wrap64 (aA.1))))≤(a0.size:Int)then(some (a0.extract (aA.2.1:Int).toNat ((wrap64 (aA.2.1+(wrap64 (aA.1)))):Int).toNat,wrap64 (aA.2.1+(wrap64 (aA.1))),0))else(none))else(none))else(none)))else(some ((⟨#[]⟩:ByteArray),0,aA.2.2)))
set_option maxHeartbeats 8000000 in
set_option maxRecDepth 100000 in
theorem ententeref01_TakeText.calls (k:Nat) (a0:ByteArray) (a1:Int) (r1:ByteArray) (r2:Int) (r3:Int) (w:World) (h:ententeref01_TakeText.f k a0 a1=some (r1,r2,r3)) :
  Calls Tryz.prog 33 #[.string a0,i6 a1] w fun e w'=> e=.returned (.tuple #[.string r1,i6 r2,i6 r3])∧Below w.heap.size w w':=by
 have HB:=am (Below.refl w.heap.size w)
 unfold ententeref01_TakeText.f at h
 have H:=h
 clear h
 obtain⟨⟨aC,aB,aD⟩,aH,H⟩:=Option.bind_eq_some_iff.mp H
 try dsimp only at H
 have A3:=am aH
 clear aH
 by_cases c4:aD=0
 ·rw[if_pos c4]at H
  have aE:=beq_iff_eq.mpr c4
  have aF:=bne_eq_false_iff_eq.mpr c4
  clear c4
  by_cases c5:aC> (IntKind.u64.wrap (wrap64 ((a0.size:Int) - aB)))
  ·rw[if_pos c5]at H
   have aG:decide ((IntKind.u64.wrap (wrap64 ((a0.size:Int) - aB)))< aC)=true:=decide_eq_true c5
   clear c5
   simp only[Option.some.injEq,Prod.mk.injEq]at H
   obtain⟨rfl,rfl,rfl⟩:=H
   go_enter Tryz.func33,Tryz.ntmps33
   go_wp2_with (first|((with_reducible refine gate_callee (f:=55) rfl ?_);refine goesL_ (some 13) rfl rfl Tryz.func55 (by kernel_rfl) rfl #[.string a0,i6 a1] rfl (by(try simp only[l_m,l_c,l_n]);rfl) ?_;(with_reducible refine(ententeref01_TakeNumber.calls k a0 a1 aC aB aD _ A3.out).mono ?_);rintro e w6 ⟨rfl,hb⟩;refine⟨_,rfl,?_⟩;replace HB:=am (below_step (HB.out) hb);clear hb))
   go_ret3
   exact⟨by rfl,HB.out⟩
  ·rw[if_neg c5]at H
   have aG:decide ((IntKind.u64.wrap (wrap64 ((a0.size:Int) - aB)))< aC)=false:=decide_eq_false c5
   clear c5
   by_cases c7:0≤aB
   ·rw[if_pos c7]at H
    have aI:=eq_true c7
    have aJ:=decide_eq_true c7
    clear c7
    by_cases c8:aB≤(wrap64 (aB+(wrap64 (aC))))
    ·rw[if_pos c8]at H
     have aK:=eq_true c8
     have aL:=decide_eq_true c8
     by_cases c9:(wrap64 (aB+(wrap64 (aC))))≤(a0.size:Int)
     ·rw[if_pos c9]at H
      have aM:=eq_true c9
      have aN:=decide_eq_true c9
      simp only[Option.some.injEq,Prod.mk.injEq]at H
      obtain⟨rfl,rfl,rfl⟩:=H
      go_enter Tryz.func33,Tryz.ntmps33
      go_wp2_with (first|((with_reducible refine gate_callee (f:=55) rfl ?_);refine goesL_ (some 13) rfl rfl Tryz.func55 (by kernel_rfl) rfl #[.string a0,i6 a1] rfl (by(try simp only[l_m,l_c,l_n]);rfl) ?_;(with_reducible refine(ententeref01_TakeNumber.calls k a0 a1 aC aB aD _ A3.out).mono ?_);rintro e aO ⟨rfl,hb⟩;refine⟨_,rfl,?_⟩;replace HB:=am (below_step (HB.out) hb);clear hb))
      go_ret3
      exact⟨by rfl,HB.out⟩
     ·rw[if_neg c9]at H
      exact absurd H (by simp)
    ·rw[if_neg c8]at H
     exact absurd H (by simp)
   ·rw[if_neg c7]at H
    exact absurd H (by simp)
 ·rw[if_neg c4]at H
  have aE:=beq_eq_false_iff_ne.mpr c4
  have aF:=bne_iff_ne.mpr c4
  simp only[Option.some.injEq,Prod.mk.injEq]at H
  obtain⟨rfl,rfl,rfl⟩:=H
  go_enter Tryz.func33,Tryz.ntmps33
  go_wp2_with (first|((with_reducible refine gate_callee (f:=55) rfl ?_);refine goesL_ (some 13) rfl rfl Tryz.func55 (by kernel_rfl) rfl #[.string a0,i6 a1] rfl (by(try simp only[l_m,l_c,l_n]);rfl) ?_;(with_reducible refine(ententeref01_TakeNumber.calls k a0 a1 aC aB aD _ A3.out).mono ?_);rintro e aP ⟨rfl,hb⟩;refine⟨_,rfl,?_⟩;replace HB:=am (below_step (HB.out) hb);clear hb))
  go_ret3
  exact⟨by rfl,HB.out⟩

/-! ### ententeref03_Number: function 56 -/
def ententeref03_Number.l0:Nat→ByteArray→Int→Int→Int→Option (Int×Int×Bool)
 |0,_,_,_,_=> none
 |k+1,x0,x1,x7,x8=> if x8< (x0.size:Int)then(if x8< (wrap64 (x1+6))then(if 0≤x8 then(if(bt x0 x8)≥48 then(if(bt x0 x8)≤57 then(ententeref03_Number.l0 k x0 x1 (wrap64 ((wrap64 (10 * x7))+(((bt x0 x8) - 48) % 256))) (wrap64 (x8+1)))else(some (x7,x8,decide (x8> x1))))else(some (x7,x8,decide (x8> x1))))else(none))else(some (x7,x8,decide (x8> x1))))else(some (x7,x8,decide (x8> x1)))
def ententeref03_Number.f (k:Nat) (a0:ByteArray) (a1:Int):Option (Int×Int×Bool):=ententeref03_Number.l0 k a0 a1 0 a1
set_option maxHeartbeats 8000000 in
set_option maxRecDepth 100000 in
theorem ententeref03_Number.calls (k:Nat) (a0:ByteArray) (a1:Int) (r1:Int) (r2:Int) (r3:Bool) (w:World) (h:ententeref03_Number.f k a0 a1=some (r1,r2,r3)) :
  Calls Tryz.prog 56 #[.string a0,i6 a1] w fun e w'=> e=.returned (.tuple #[i6 r1,i6 r2,.bool r3])∧Drawn0 w w':=by
 unfold ententeref03_Number.f at h
 have H:=h
 clear h
 have H':=am H
 clear H
 go_enter Tryz.func56,Tryz.ntmps56
 go_wp2
 go_loopg [7,8] k (fun kq v7 v8 w'=> ∃ (aB:Int) (aA:Int),v7=i6 aB∧v8=i6 aA∧Aside0 (ententeref03_Number.l0 kq a0 a1 aB aA=some (r1,r2,r3))∧Aside0 (kq≤k)∧Drawn0 w w')
 case atStart=> exact⟨(0),(a1),(by rfl),(by rfl),H',⟨Nat.le_refl _⟩,Drawn0.refl _⟩
 case round=>
  clear H'
  obtain⟨aB,aA,rfl,rfl,HA,aG,⟨m1,rfl⟩⟩:=hrel
  cases gk with
  |zero=> exact absurd HA.out (by simp[ententeref03_Number.l0])
  |succ k1=>
   have H:=HA.out
   clear HA
   simp only[ententeref03_Number.l0]at H
   by_cases c3:aA< (a0.size:Int)
   ·rw[if_pos c3]at H
    have aC:=decide_eq_true c3
    clear c3
    by_cases c4:aA< (wrap64 (a1+6))
    ·rw[if_pos c4]at H
     have aD:=decide_eq_true c4
     clear c4
     by_cases c5:0≤aA
     ·rw[if_pos c5]at H
      have aK:=decide_eq_true c5
      clear c5
      by_cases c7:(bt a0 aA)≥48
      ·rw[if_pos c7]at H
       have aE:decide (48≤(bt a0 aA))=true:=decide_eq_true c7
       clear c7
       by_cases c9:(bt a0 aA)≤57
       ·rw[if_pos c9]at H
        have aF:=decide_eq_true c9
        clear c9
        have H':=am H
        clear H
        have p6:0≤(aA:Int):=of_decide_eq_true (by(with_reducible assumption))
        have q6:aA< (a0.size:Int):=of_decide_eq_true (by(with_reducible assumption))
        have aH:=bt_at a0 aA
        replace p6:=eq_true p6
        replace q6:=eq_true q6
        have p8:0≤(aA:Int):=of_decide_eq_true (by(with_reducible assumption))
        have q8:aA< (a0.size:Int):=of_decide_eq_true (by(with_reducible assumption))
        have aL:=bt_at a0 aA
        replace p8:=eq_true p8
        replace q8:=eq_true q8
        have aI:0≤(aA:Int):=of_decide_eq_true (by(with_reducible assumption))
        have aJ:aA< (a0.size:Int):=of_decide_eq_true (by(with_reducible assumption))
        have aM:=bt_at a0 aA
        replace aI:=eq_true aI
        replace aJ:=eq_true aJ
        go_wp2
        go_roundg k1
        case measure=> have:=aG.out;omega
        case rel=> exact⟨(wrap64 ((wrap64 (10 * aB))+(((bt a0 aA) - 48) % 256))),(wrap64 (aA+1)),(by rfl),(by rfl),H',⟨by have:=aG.out;omega⟩,by repeat(first|exact Drawn0.refl _|apply Drawn0.step)⟩
       ·rw[if_neg c9]at H
        have aF:=decide_eq_false c9
        clear c9
        simp only[Option.some.injEq,Prod.mk.injEq]at H
        obtain⟨rfl,rfl,rfl⟩:=H
        have p6:0≤(aA:Int):=of_decide_eq_true (by(with_reducible assumption))
        have q6:aA< (a0.size:Int):=of_decide_eq_true (by(with_reducible assumption))
        have aH:=bt_at a0 aA
        replace p6:=eq_true p6
        replace q6:=eq_true q6
        have p8:0≤(aA:Int):=of_decide_eq_true (by(with_reducible assumption))
        have q8:aA< (a0.size:Int):=of_decide_eq_true (by(with_reducible assumption))
        have aL:=bt_at a0 aA
        replace p8:=eq_true p8
        replace q8:=eq_true q8
        go_wp2
        go_ret3
        exact⟨by rfl,by repeat(first|exact Drawn0.refl _|apply Drawn0.step)⟩
      ·rw[if_neg c7]at H
       have aE:decide (48≤(bt a0 aA))=false:=decide_eq_false c7
       clear c7
       simp only[Option.some.injEq,Prod.mk.injEq]at H
       obtain⟨rfl,rfl,rfl⟩:=H
       have p6:0≤(aA:Int):=of_decide_eq_true (by(with_reducible assumption))
       have q6:aA< (a0.size:Int):=of_decide_eq_true (by(with_reducible assumption))
       have aH:=bt_at a0 aA
       replace p6:=eq_true p6
       replace q6:=eq_true q6
       go_wp2
       go_ret3
       exact⟨by rfl,by repeat(first|exact Drawn0.refl _|apply Drawn0.step)⟩
     ·rw[if_neg c5]at H
      exact absurd H (by simp)
    ·rw[if_neg c4]at H
     have aD:=decide_eq_false c4
     clear c4
     simp only[Option.some.injEq,Prod.mk.injEq]at H
     obtain⟨rfl,rfl,rfl⟩:=H
     go_wp2
     go_ret3
     exact⟨by rfl,by repeat(first|exact Drawn0.refl _|apply Drawn0.step)⟩
   ·rw[if_neg c3]at H
    have aC:=decide_eq_false c3
    clear c3
    simp only[Option.some.injEq,Prod.mk.injEq]at H
    obtain⟨rfl,rfl,rfl⟩:=H
    go_wp2
    go_ret3
    exact⟨by rfl,by repeat(first|exact Drawn0.refl _|apply Drawn0.step)⟩

/-! ### ententeref03_Parse: function 34 -/
mutual
def ententeref03_Parse.j0:Nat→ByteArray→Int→Bool→Int→Int→Option (Int×Int×(List (S46))×Int)
 |0,_,_,_,_,_=> none
 |k+1,x0,x6,gE,aN,aR=> if gE=true then(some (0,0,([]:List (S46)),30))else((ententeref03_Number.f k x0 (wrap64 (x6+1))).bind fun aY=> (ententeref03_Parse.l0 k x0 aY.2.1 aY.2.2 aN aY.1 ([]:List (S46))))
def ententeref03_Parse.l0:Nat→ByteArray→Int→Bool→Int→Int→List (S46)→Option (Int×Int×(List (S46))×Int)
 |0,_,_,_,_,_,_=> none
 |k+1,x0,x6,x7,aN,aR,aQ=> if x7=true then(if x6< (x0.size:Int)then(ententeref03_Parse.j2 k x0 x6 x7 (decide ((aQ.length:Int)< 5)) aN aR aQ)else(ententeref03_Parse.j2 k x0 x6 x7 false aN aR aQ))else(ententeref03_Parse.j2 k x0 x6 x7 false aN aR aQ)
def ententeref03_Parse.j2:Nat→ByteArray→Int→Bool→Bool→Int→Int→List (S46)→Option (Int×Int×(List (S46))×Int)
 |0,_,_,_,_,_,_,_=> none
 |k+1,x0,x6,x7,gF,aN,aR,aQ=> if gF=true then((ententeref03_Number.f k x0 (wrap64 (x6+1))).bind fun aX=> (if aX.2.2=true then(if aX.2.1=(x0.size:Int)then(some (0,0,([]:List (S46)),30))else((ententeref03_Number.f k x0 (wrap64 (aX.2.1+1))).bind fun aT=> (if aQ.length< 8796093022208 then(ententeref03_Parse.l0 k x0 aT.2.1 aT.2.2 aN aR (aQ++[(⟨aX.1,aT.1⟩:S46)]))else(none))))else(some (0,0,([]:List (S46)),30))))else((ententeref03_Show.f k aN aR aQ).bind fun a4=> (if x7=true then(if a4.2=0 then(if a4.1.toList=x0.toList then(some (aN,aR,aQ,0))else(some (0,0,([]:List (S46)),30)))else(some (0,0,([]:List (S46)),30)))else(some (0,0,([]:List (S46)),30))))
end
def ententeref03_Parse.f (k:Nat) (a0:ByteArray):Option (Int×Int×(List (S46))×Int):=(ententeref03_Number.f k a0 0).bind fun a1=> (if a1.2.2=true then(ententeref03_Parse.j0 k a0 a1.2.1 (a1.2.1==(a0.size:Int)) a1.1 0)else(ententeref03_Parse.j0 k a0 a1.2.1 true a1.1 0))
set_option maxHeartbeats 8000000 in
set_option maxRecDepth 100000 in
theorem ententeref03_Parse.calls (k:Nat) (a0:ByteArray) (r1:Int) (r2:Int) (r3:List (S46)) (r4:Int) (w:World) (h:ententeref03_Parse.f k a0=some (r1,r2,r3,r4)) :
  Calls Tryz.prog 34 #[.string a0] w fun e w'=> ∃ v2_:Value,e=.returned (.tuple #[.agg #[i6 r1,i6 r2,v2_],i6 r4])∧Kd.R k46 46 w' w.heap.size (fun _=> True) v2_ r3∧Below w.heap.size w w':=by
 have hu24:=Tryz.underlying24
 have hu46:=Tryz.underlying46
 have HB:=am (Below.refl w.heap.size w)
 unfold ententeref03_Parse.f at h
 have H:=h
 clear h
 obtain⟨⟨aH,a2,b1⟩,fR,H⟩:=Option.bind_eq_some_iff.mp H
 try dsimp only at H
 have A2:=am fR
 clear fR
 have HC3:=am H
 clear H
 go_enter Tryz.func34,Tryz.ntmps34
 go_upto_region 4 with(first|((with_reducible refine gate_dst (N:=2) rfl ?_);(try(refine gate_guard (by rfl) ?_;dsimp only));refine box_event ?hg (N:=2) ?hd (cs:=#[i6 0,i6 0,.slice none 0 0]) (t:=24) ?hr ?_;(case hd=> rfl);(case hg=> rfl);(case hr=> (go_simp;done));intro aM hg w4 hbox hb;have aC:=am (hbox);have fS:=am (gsz hg HB.out);have aZ:=am (gsz hg HB.out);replace HB:=am (below_step (HB.out) hb);clear hb hbox hg)|((with_reducible refine gate_dst (N:=4) rfl ?_);(try(refine gate_guard (by rfl) ?_;dsimp only));refine box_event ?hg (N:=4) ?hd (cs:=#[i6 0,i6 0,.slice none 0 0]) (t:=24) ?hr ?_;(case hd=> rfl);(case hg=> rfl);(case hr=> (go_simp;done));intro aW hg w5 hbox hb;have aD:=am (hbox);have fT:=am (gsz hg HB.out);have a8:=am (gsz hg HB.out);replace HB:=am (below_step (HB.out) hb);have aE:=am ((by rw[hg];exact Nat.ne_of_lt (blk_lt aC.out):aM≠aW));have aG:=am ((by rw[hg];exact Nat.ne_of_gt (blk_lt aC.out):aW≠aM));replace aC:=am (blk_below aC.out hb);clear hb hbox hg;have gG:=aG.out;have gH:=aE.out;obtain⟨bO,bP,bQ⟩:=bc3 aD.out;obtain⟨bR,bS,bT⟩:=bf3 aD.out)|((with_reducible refine gate_callee (f:=56) rfl ?_);refine goesL_ (some 20) rfl rfl Tryz.func56 (by kernel_rfl) rfl #[.string a0,i6 0] rfl (by(try simp only[l_m,l_c,l_n]);rfl) ?_;(with_reducible refine(ententeref03_Number.calls k a0 0 aH a2 b1 _ A2.out).mono ?_);rintro e w' ⟨rfl,⟨nd,rfl⟩⟩;refine⟨_,rfl,?_⟩))
 (try simp only[Act.put,l_a,l_z,l_s])
 go_cut [33] (fun v33 wc=> ∃ (kq:Nat) (a9:Bool),v33=.bool a9∧Aside0 (ententeref03_Parse.j0 kq a0 a2 a9 aH 0=some (r1,r2,r3,r4))∧Aside0 (kq≤k)∧Aside0 (wc.heap[aM]?=some (.cells #[i6 0,i6 0,(.slice none 0 0)] 24 (0,0)))∧Aside0 (wc.heap[aW]?=some (.cells #[i6 aH,i6 0,(.slice none 0 0)] 24 (0,0)))∧Aside0 (Below w.heap.size w wc))
 case first=>
  have H:=HC3.out
  clear HC3
  by_cases c8:b1=true
  ·subst c8
   have H1:(ententeref03_Parse.j0 k a0 a2 (a2==(a0.size:Int)) aH 0)=some (r1,r2,r3,r4):=by rw[if_pos rfl]at H;exact H
   clear H
   have H:=H1
   clear H1
   have H':=am H
   clear H
   go_wp2
   go_meet
   case rel=> exact⟨_,((a2==(a0.size:Int))),(by rfl),H',⟨by omega⟩,⟨by refine blk_far ?_ aE.out _;refine blk_drewN ?_ _;(iterate 3 refine blk_far ?_ aE.out _);exact aC.out⟩,⟨by refine blk_put (cs:=#[i6 0,i6 0,.slice none 0 0]) ?_ 0 _ rfl;refine blk_drewN ?_ _;exact bp (bp (bp aD.out 0) 1) 2⟩,⟨by repeat(with_reducible first|exact HB.out|apply pw_below_drewN|refine below_set ?_ a8.out)⟩⟩
  ·replace c8:=Bool.eq_false_iff.mpr c8
   subst c8
   have H1:(ententeref03_Parse.j0 k a0 a2 true aH 0)=some (r1,r2,r3,r4):=by rw[if_neg (show ¬ (false=true)by decide)]at H;exact H
   clear H
   have H:=H1
   clear H1
   have H':=am H
   clear H
   go_wp2
   go_meet
   case rel=> exact⟨_,(true),(by rfl),H',⟨by omega⟩,⟨by refine blk_far ?_ aE.out _;refine blk_drewN ?_ _;(iterate 3 refine blk_far ?_ aE.out _);exact aC.out⟩,⟨by refine blk_put (cs:=#[i6 0,i6 0,.slice none 0 0]) ?_ 0 _ rfl;refine blk_drewN ?_ _;exact bp (bp (bp aD.out 0) 1) 2⟩,⟨by repeat(with_reducible first|exact HB.out|apply pw_below_drewN|refine below_set ?_ a8.out)⟩⟩
 case rest=>
  clear HC3 bO bP bQ bR bS bT
  obtain⟨kq,a9,rfl,HA,b2,aC,aD,HB⟩:=hcut
  cases kq with
  |zero=> exact absurd HA.out (by simp[ententeref03_Parse.j0])
  |succ b3=>
   have H:=HA.out
   clear HA
   simp only[ententeref03_Parse.j0]at H
   by_cases c9:a9=true
   ·subst c9
    have H1:(some (0,0,([]:List (S46)),30))=some (r1,r2,r3,r4):=by rw[if_pos rfl]at H;exact H
    clear H
    have H:=H1
    clear H1
    simp only[Option.some.injEq,Prod.mk.injEq]at H
    obtain⟨rfl,rfl,rfl,rfl⟩:=H
    have fU:=aE.out
    have fV:=aG.out
    obtain⟨cL,cM,cN⟩:=bc3 aC.out
    obtain⟨cO,cP,cQ⟩:=bf3 aC.out
    go_wp2
    refine bodyPost_ret (results_ct rfl _ _ aM 24 #[i6 0,i6 0,.slice none 0 0] (0,0) _ rfl (bp (bp (bp aC.out 0) 1) 2) Tryz.underlying24 rfl (by kernel_rfl)) rfl ?_
    exact⟨_,by rfl,by exact Kd.R_nil _ _ _ _ _,bs3 HB.out aZ.out⟩
   ·replace c9:=Bool.eq_false_iff.mpr c9
    subst c9
    have H1:((ententeref03_Number.f b3 a0 (wrap64 (a2+1))).bind fun aY=> (ententeref03_Parse.l0 b3 a0 aY.2.1 aY.2.2 aH aY.1 ([]:List (S46))))=some (r1,r2,r3,r4):=by rw[if_neg (show ¬ (false=true)by decide)]at H;exact H
    clear H
    have H:=H1
    clear H1
    obtain⟨⟨aK,b4,b5⟩,b6,H⟩:=Option.bind_eq_some_iff.mp H
    try dsimp only at H
    have gI:=am b6
    clear b6
    have H':=am H
    clear H
    go_wp2_with (first|((with_reducible refine gate_callee (f:=56) rfl ?_);refine goesL_ (some 39) rfl rfl Tryz.func56 (by kernel_rfl) rfl #[.string a0,i6 (wrap64 (a2+1))] rfl (by(try simp only[l_m,l_c,l_n]);rfl) ?_;(with_reducible refine(ententeref03_Number.calls b3 a0 (wrap64 (a2+1)) aK b4 b5 _ gI.out).mono ?_);rintro e w' ⟨rfl,⟨nd,rfl⟩⟩;refine⟨_,rfl,?_⟩;(try(rw[drewN_self wc];generalize hq_:World.drewN wc _=wc;have bA:Aside0 (wc.heap[aM]?=some (.cells #[i6 0,i6 0,.slice none 0 0] 24 (0,0))):=⟨by rw[← hq_];exact(by refine blk_drewN ?_ _;exact aC.out)⟩;have bB:Aside0 (wc.heap[aW]?=some (.cells #[i6 aH,i6 0,.slice none 0 0] 24 (0,0))):=⟨by rw[← hq_];exact(by refine blk_drewN ?_ _;exact aD.out)⟩;have bC:Aside0 (Below w.heap.size w wc):=⟨by rw[← hq_];exact(pw_below_drewN HB.out _)⟩;clear aC aD HB hq_;have aC:=bA;have aD:=bB;have HB:=bC;clear bA bB bC));have fW:=aG.out;have fX:=aE.out;obtain⟨bH,bI,bJ⟩:=bc3 aD.out;obtain⟨bK,bL,bM⟩:=bf3 aD.out))
    go_loopg [6,7] b3 (fun kq v6 v7 w'=> ∃ (aU:Int) (a7:Bool) (aI:Int) (aJ:Int) (aA:List (S46)) (u427002:Value),v6=i6 aU∧v7=.bool a7∧Aside0 (ententeref03_Parse.l0 kq a0 aU a7 aH aK aA=some (r1,r2,r3,r4))∧Aside0 (kq≤b3)∧Aside0 (Kd.R k46 46 w' w.heap.size (fun _=> True) u427002 aA)∧Aside0 (w'.heap[aM]?=some (.cells #[i6 aI,i6 aJ,(.slice none 0 0)] 24 (0,0)))∧Aside0 (w'.heap[aW]?=some (.cells #[i6 aH,i6 aK,u427002] 24 (0,0)))∧Aside0 (Below w.heap.size w w'))
    case atStart=> exact⟨(b4),(b5),(0),(0),(([]:List (S46))),(.slice none 0 0),(by rfl),(by rfl),H',⟨Nat.le_refl _⟩,⟨by exact Kd.R_nil _ _ _ _ _⟩,⟨by refine blk_far ?_ aE.out _;exact aC.out⟩,⟨by exact bp aD.out 1⟩,⟨below_set HB.out a8.out⟩⟩
    case round=>
     clear H'
     clear bH bI bJ bK bL bM
     obtain⟨aU,a7,aI,aJ,aA,u427002,rfl,rfl,HA,b7,HO_427002,aC,aD,HB⟩:=hrel
     cases gk with
     |zero=> exact absurd HA.out (by simp[ententeref03_Parse.l0])
     |succ k2=>
      have H:=HA.out
      clear HA
      simp only[ententeref03_Parse.l0]at H
      have HC15:=am H
      clear H
      go_upto_region 8 with(fail)
      go_cut [57] (fun v57 wc=> ∃ (kq:Nat) (a3:Bool),v57=.bool a3∧Aside0 (ententeref03_Parse.j2 kq a0 aU a7 a3 aH aK aA=some (r1,r2,r3,r4))∧Aside0 (kq≤k2)∧Aside0 (Kd.R k46 46 wc w.heap.size (fun _=> True) u427002 aA)∧Aside0 (wc.heap[aM]?=some (.cells #[i6 aI,i6 aJ,(.slice none 0 0)] 24 (0,0)))∧Aside0 (wc.heap[aW]?=some (.cells #[i6 aH,i6 aK,u427002] 24 (0,0)))∧Aside0 (Below w.heap.size w wc))
      case first=>
       have H:=HC15.out
       clear HC15
       by_cases cR:a7=true
       ·subst cR
        have H1:(if aU< (a0.size:Int)then(ententeref03_Parse.j2 k2 a0 aU true (decide ((aA.length:Int)< 5)) aH aK aA)else(ententeref03_Parse.j2 k2 a0 aU true false aH aK aA))=some (r1,r2,r3,r4):=by rw[if_pos rfl]at H;exact H
        clear H
        have H:=H1
        clear H1
        by_cases b0:aU< (a0.size:Int)
        ·rw[if_pos b0]at H
         have b8:=decide_eq_true b0
         clear b0
         (skip)
         have H':=am H
         clear H
         have fY:=aG.out
         have fZ:=aE.out
         obtain⟨cS,cT,cU⟩:=bc3 aD.out
         obtain⟨cV,cW,cX⟩:=bf3 aD.out
         obtain⟨gJ,gK,eo20⟩:=Kd.R_slice HO_427002.out
         subst eo20
         go_wp2
         go_meet
         case rel=> exact⟨_,(decide ((aA.length:Int)< 5)),(by rfl),H',⟨by have:=b2.out;have:=b7.out;omega⟩,⟨by exact HO_427002.out⟩,⟨by exact aC.out⟩,⟨by exact aD.out⟩,⟨HB.out⟩⟩
        ·rw[if_neg b0]at H
         have b8:=decide_eq_false b0
         clear b0
         (skip)
         have H':=am H
         clear H
         go_wp2
         go_meet
         case rel=> exact⟨_,(false),(by rfl),H',⟨by have:=b2.out;have:=b7.out;omega⟩,⟨by exact HO_427002.out⟩,⟨by exact aC.out⟩,⟨by exact aD.out⟩,⟨HB.out⟩⟩
       ·replace cR:=Bool.eq_false_iff.mpr cR
        subst cR
        have H1:(ententeref03_Parse.j2 k2 a0 aU false false aH aK aA)=some (r1,r2,r3,r4):=by rw[if_neg (show ¬ (false=true)by decide)]at H;exact H
        clear H
        have H:=H1
        clear H1
        have H':=am H
        clear H
        go_wp2
        go_meet
        case rel=> exact⟨_,(false),(by rfl),H',⟨by have:=b2.out;have:=b7.out;omega⟩,⟨by exact HO_427002.out⟩,⟨by exact aC.out⟩,⟨by exact aD.out⟩,⟨HB.out⟩⟩
      case rest=>
       clear HC15
       obtain⟨kq,a3,rfl,HA,b9,HO_427002,aC,aD,HB⟩:=hcut
       cases kq with
       |zero=> exact absurd HA.out (by simp[ententeref03_Parse.j2])
       |succ aV=>
        have H:=HA.out
        clear HA
        simp only[ententeref03_Parse.j2]at H
        by_cases cY:a3=true
        ·subst cY
         have H1:((ententeref03_Number.f aV a0 (wrap64 (aU+1))).bind fun aX=> (if aX.2.2=true then(if aX.2.1=(a0.size:Int)then(some (0,0,([]:List (S46)),30))else((ententeref03_Number.f aV a0 (wrap64 (aX.2.1+1))).bind fun aT=> (if aA.length< 8796093022208 then(ententeref03_Parse.l0 aV a0 aT.2.1 aT.2.2 aH aK (aA++[(⟨aX.1,aT.1⟩:S46)]))else(none))))else(some (0,0,([]:List (S46)),30))))=some (r1,r2,r3,r4):=by rw[if_pos rfl]at H;exact H
         clear H
         have H:=H1
         clear H1
         obtain⟨⟨a5,a6,fH⟩,cA,H⟩:=Option.bind_eq_some_iff.mp H
         try dsimp only at H
         have fI:=am cA
         clear cA
         by_cases cZ:fH=true
         ·subst cZ
          have H1:(if a6=(a0.size:Int)then(some (0,0,([]:List (S46)),30))else((ententeref03_Number.f aV a0 (wrap64 (a6+1))).bind fun aT=> (if aA.length< 8796093022208 then(ententeref03_Parse.l0 aV a0 aT.2.1 aT.2.2 aH aK (aA++[(⟨a5,aT.1⟩:S46)]))else(none))))=some (r1,r2,r3,r4):=by rw[if_pos rfl]at H;exact H
          clear H
          have H:=H1
          clear H1
          by_cases bU:a6=(a0.size:Int)
          ·rw[if_pos bU]at H
           have cB:=beq_iff_eq.mpr bU
           have cC:=bne_eq_false_iff_eq.mpr bU
           clear bU
           simp only[Option.some.injEq,Prod.mk.injEq]at H
           obtain⟨rfl,rfl,rfl,rfl⟩:=H
           go_wp2_with (first|((with_reducible refine gate_callee (f:=56) rfl ?_);refine goesL_ (some 62) rfl rfl Tryz.func56 (by kernel_rfl) rfl #[.string a0,i6 (wrap64 (aU+1))] rfl (by(try simp only[l_m,l_c,l_n]);rfl) ?_;(with_reducible refine(ententeref03_Number.calls aV a0 (wrap64 (aU+1)) a5 a6 true _ fI.out).mono ?_);rintro e w' ⟨rfl,⟨nd,rfl⟩⟩;refine⟨_,rfl,?_⟩;(try(rw[drewN_self wc];generalize hq_:World.drewN wc _=wc;have bA:Aside0 (Kd.R k46 46 wc w.heap.size (fun _=> True) u427002 aA):=⟨by rw[← hq_];exact(by(with_reducible repeat apply Kd.R_drewN);exact HO_427002.out)⟩;have bB:Aside0 (wc.heap[aM]?=some (.cells #[i6 aI,i6 aJ,.slice none 0 0] 24 (0,0))):=⟨by rw[← hq_];exact(by refine blk_drewN ?_ _;exact aC.out)⟩;have bC:Aside0 (wc.heap[aW]?=some (.cells #[i6 aH,i6 aK,u427002] 24 (0,0))):=⟨by rw[← hq_];exact(by refine blk_drewN ?_ _;exact aD.out)⟩;have bF:Aside0 (Below w.heap.size w wc):=⟨by rw[← hq_];exact(pw_below_drewN HB.out _)⟩;clear HO_427002 aC aD HB hq_;have HO_427002:=bA;have aC:=bB;have aD:=bC;have HB:=bF;clear bA bB bC bF));have f0:=aE.out;have f1:=aG.out;obtain⟨c0,c1,dA⟩:=bc3 aC.out;obtain⟨dB,dC,dD⟩:=bf3 aC.out))
           refine bodyPost_ret (results_ct rfl _ _ aM 24 #[i6 0,i6 0,.slice none 0 0] (0,0) _ rfl (bp (bp (bp aC.out 0) 1) 2) Tryz.underlying24 rfl (by kernel_rfl)) rfl ?_
           exact⟨_,by rfl,by exact Kd.R_nil _ _ _ _ _,bs3 HB.out aZ.out⟩
          ·rw[if_neg bU]at H
           have cB:=beq_eq_false_iff_ne.mpr bU
           have cC:=bne_iff_ne.mpr bU
           obtain⟨⟨bG,bV,bW⟩,cD,H⟩:=Option.bind_eq_some_iff.mp H
           try dsimp only at H
           have gL:=am cD
           clear cD
           by_cases dE:aA.length< 8796093022208
           ·rw[if_pos dE]at H
            have LMc28:=am dE
            clear dE
            obtain⟨bX,hy441⟩:∃ y_:List (S46),y_=(aA++[(⟨a5,bG⟩:S46)]):=⟨_,rfl⟩
            replace H:(ententeref03_Parse.l0 aV a0 bV bW aH aK bX)=some (r1,r2,r3,r4):=by(rw[hy441];with_reducible exact H)
            have Ny441:=am hy441
            clear hy441
            have H':=am H
            clear H
            go_wp2_with (first|((with_reducible refine gate_callee (f:=56) rfl ?_);refine goesL_ (some 62) rfl rfl Tryz.func56 (by kernel_rfl) rfl #[.string a0,i6 (wrap64 (aU+1))] rfl (by(try simp only[l_m,l_c,l_n]);rfl) ?_;(with_reducible refine(ententeref03_Number.calls aV a0 (wrap64 (aU+1)) a5 a6 true _ fI.out).mono ?_);rintro e w' ⟨rfl,⟨nd,rfl⟩⟩;refine⟨_,rfl,?_⟩;(try(rw[drewN_self wc];generalize hq_:World.drewN wc _=wc;have bA:Aside0 (Kd.R k46 46 wc w.heap.size (fun _=> True) u427002 aA):=⟨by rw[← hq_];exact(by(with_reducible repeat apply Kd.R_drewN);exact HO_427002.out)⟩;have bB:Aside0 (wc.heap[aM]?=some (.cells #[i6 aI,i6 aJ,.slice none 0 0] 24 (0,0))):=⟨by rw[← hq_];exact(by refine blk_drewN ?_ _;exact aC.out)⟩;have bC:Aside0 (wc.heap[aW]?=some (.cells #[i6 aH,i6 aK,u427002] 24 (0,0))):=⟨by rw[← hq_];exact(by refine blk_drewN ?_ _;exact aD.out)⟩;have bF:Aside0 (Below w.heap.size w wc):=⟨by rw[← hq_];exact(pw_below_drewN HB.out _)⟩;clear HO_427002 aC aD HB hq_;have HO_427002:=bA;have aC:=bB;have aD:=bC;have HB:=bF;clear bA bB bC bF)))|((with_reducible refine gate_callee (f:=56) rfl ?_);refine goesL_ (some 79) rfl rfl Tryz.func56 (by kernel_rfl) rfl #[.string a0,i6 (wrap64 (a6+1))] rfl (by(try simp only[l_m,l_c,l_n]);rfl) ?_;(with_reducible refine(ententeref03_Number.calls aV a0 (wrap64 (a6+1)) bG bV bW _ gL.out).mono ?_);rintro e w' ⟨rfl,⟨nd,rfl⟩⟩;refine⟨_,rfl,?_⟩;(try(rw[drewN_self wc];generalize hq_:World.drewN wc _=wc;have bA:Aside0 (Kd.R k46 46 wc w.heap.size (fun _=> True) u427002 aA):=⟨by rw[← hq_];exact(by(with_reducible repeat apply Kd.R_drewN);exact HO_427002.out)⟩;have bB:Aside0 (wc.heap[aM]?=some (.cells #[i6 aI,i6 aJ,.slice none 0 0] 24 (0,0))):=⟨by rw[← hq_];exact(by refine blk_drewN ?_ _;exact aC.out)⟩;have bC:Aside0 (wc.heap[aW]?=some (.cells #[i6 aH,i6 aK,u427002] 24 (0,0))):=⟨by rw[← hq_];exact(by refine blk_drewN ?_ _;exact aD.out)⟩;have bF:Aside0 (Below w.heap.size w wc):=⟨by rw[← hq_];exact(pw_below_drewN HB.out _)⟩;clear HO_427002 aC aD HB hq_;have HO_427002:=bA;have aC:=bB;have aD:=bC;have HB:=bF;clear bA bB bC bF));have f2:=aG.out;have f3:=aE.out;obtain⟨dF,dG,dH⟩:=bc3 aD.out;obtain⟨dI,dJ,dK⟩:=bf3 aD.out)|((with_reducible refine gate_builtin (b:=.append) (xs:=#[.tmp 84,.tmp 88]) rfl ?_);(try(refine gate_guard (by rfl) ?_;dsimp only));at_builtin;refine Kd.R_append k46 (w0:=w) w.heap.size rfl (.tmp 84) (.tmp 88) 22 46 (.agg #[(i6 0),(i6 0)]) 16 rfl Tryz.underlying22 info46 rfl (by decide) (by omega) u427002 aA (⟨a5,bG⟩:S46) [i6 a5,i6 bG] (fun _=> True) (fun _=> False) rfl rfl ?aP (fun _ hk=> hk.elim) ?aF ?aO ?aB ?aS ?aL ?_;(case aP=> exact k46_mkM _ _ _ (⟨a5,bG⟩:S46));(case aB=> exact(HB.out));(case aF=> exact(fun _ _=> trivial));(case aO=> exact(by exact HO_427002.out));(case aS=> exact(below_size (HB.out)));(case aL=> have:=LMc28.out;omega);intro v442 gM ho hb hg hat;rw[← Ny441.out]at ho;replace aC:=am (blk_grown aC.out hg (Kd.R_ne HO_427002.out aC.out (by decide)));replace aD:=am (blk_grown aD.out hg (Kd.R_ne HO_427002.out aD.out (by decide)));replace HB:=am (hb);have bN:=am (ho);clear HO_427002;clear ho hb hg hat;obtain⟨fJ,fK,eo32⟩:=Kd.R_slice bN.out;subst eo32;obtain⟨dL,dM,dN⟩:=bc3 aD.out;obtain⟨dO,dP,dQ⟩:=bf3 aD.out))
            go_roundg aV
            case measure=> have:=b2.out;have:=b7.out;have:=b9.out;omega
            case rel=> exact⟨(bV),(bW),(aI),(aJ),(bX),(.slice fJ bX.length fK),(by rfl),(by rfl),H',⟨by have:=b2.out;have:=b7.out;have:=b9.out;omega⟩,⟨by exact Kd.R_mono (rf (Kd.R_types bN.out aD.out (by decide))) (fun _ hk=> trivial)⟩,⟨by refine blk_far ?_ aE.out _;exact aC.out⟩,⟨by exact bp aD.out 2⟩,⟨below_set HB.out a8.out⟩⟩
           ·rw[if_neg dE]at H
            exact absurd H (by simp)
         ·replace cZ:=Bool.eq_false_iff.mpr cZ
          subst cZ
          have H1:(some (0,0,([]:List (S46)),30))=some (r1,r2,r3,r4):=by rw[if_neg (show ¬ (false=true)by decide)]at H;exact H
          clear H
          have H:=H1
          clear H1
          simp only[Option.some.injEq,Prod.mk.injEq]at H
          obtain⟨rfl,rfl,rfl,rfl⟩:=H
          go_wp2_with (first|((with_reducible refine gate_callee (f:=56) rfl ?_);refine goesL_ (some 62) rfl rfl Tryz.func56 (by kernel_rfl) rfl #[.string a0,i6 (wrap64 (aU+1))] rfl (by(try simp only[l_m,l_c,l_n]);rfl) ?_;(with_reducible refine(ententeref03_Number.calls aV a0 (wrap64 (aU+1)) a5 a6 false _ fI.out).mono ?_);rintro e w' ⟨rfl,⟨nd,rfl⟩⟩;refine⟨_,rfl,?_⟩;(try(rw[drewN_self wc];generalize hq_:World.drewN wc _=wc;have bA:Aside0 (Kd.R k46 46 wc w.heap.size (fun _=> True) u427002 aA):=⟨by rw[← hq_];exact(by(with_reducible repeat apply Kd.R_drewN);exact HO_427002.out)⟩;have bB:Aside0 (wc.heap[aM]?=some (.cells #[i6 aI,i6 aJ,.slice none 0 0] 24 (0,0))):=⟨by rw[← hq_];exact(by refine blk_drewN ?_ _;exact aC.out)⟩;have bC:Aside0 (wc.heap[aW]?=some (.cells #[i6 aH,i6 aK,u427002] 24 (0,0))):=⟨by rw[← hq_];exact(by refine blk_drewN ?_ _;exact aD.out)⟩;have bF:Aside0 (Below w.heap.size w wc):=⟨by rw[← hq_];exact(pw_below_drewN HB.out _)⟩;clear HO_427002 aC aD HB hq_;have HO_427002:=bA;have aC:=bB;have aD:=bC;have HB:=bF;clear bA bB bC bF));have f4:=aE.out;have f5:=aG.out;obtain⟨dR,dS,dT⟩:=bc3 aC.out;obtain⟨dU,dV,dW⟩:=bf3 aC.out))
          refine bodyPost_ret (results_ct rfl _ _ aM 24 #[i6 0,i6 0,.slice none 0 0] (0,0) _ rfl (bp (bp (bp aC.out 0) 1) 2) Tryz.underlying24 rfl (by kernel_rfl)) rfl ?_
          exact⟨_,by rfl,by exact Kd.R_nil _ _ _ _ _,bs3 HB.out aZ.out⟩
        ·replace cY:=Bool.eq_false_iff.mpr cY
         subst cY
         have H1:((ententeref03_Show.f aV aH aK aA).bind fun a4=> (if a7=true then(if a4.2=0 then(if a4.1.toList=a0.toList then(some (aH,aK,aA,0))else(some (0,0,([]:List (S46)),30)))else(some (0,0,([]:List (S46)),30)))else(some (0,0,([]:List (S46)),30))))=some (r1,r2,r3,r4):=by rw[if_neg (show ¬ (false=true)by decide)]at H;exact H
         clear H
         have H:=H1
         clear H1
         obtain⟨⟨bD,bE⟩,cE,H⟩:=Option.bind_eq_some_iff.mp H
         try dsimp only at H
         have dX:=am cE
         clear cE
         by_cases dY:a7=true
         ·subst dY
          have H1:(if bE=0 then(if bD.toList=a0.toList then(some (aH,aK,aA,0))else(some (0,0,([]:List (S46)),30)))else(some (0,0,([]:List (S46)),30)))=some (r1,r2,r3,r4):=by rw[if_pos rfl]at H;exact H
          clear H
          have H:=H1
          clear H1
          by_cases bY:bE=0
          ·rw[if_pos bY]at H
           have cF:=beq_iff_eq.mpr bY
           have cG:=bne_eq_false_iff_eq.mpr bY
           clear bY
           by_cases bZ:bD.toList=a0.toList
           ·rw[if_pos bZ]at H
            have cH:=beq_iff_eq.mpr bZ
            have cI:=bne_eq_false_iff_eq.mpr bZ
            clear bZ
            simp only[Option.some.injEq,Prod.mk.injEq]at H
            obtain⟨rfl,rfl,rfl,rfl⟩:=H
            have f6:=aG.out
            have f7:=aE.out
            obtain⟨dZ,d0,d1⟩:=bc3 aD.out
            obtain⟨d2,d3,d4⟩:=bf3 aD.out
            obtain⟨cJ,cK,eo42⟩:=Kd.R_slice HO_427002.out
            subst eo42
            go_wp2_with (first|((with_reducible refine gate_callee (f:=23) rfl ?_);refine goesL_ (some 95) rfl rfl Tryz.func23 (by kernel_rfl) rfl #[.agg #[i6 aH,i6 aK,.slice cJ aA.length cK]] rfl (by(try simp only[l_m,l_c,l_n]);rfl) ?_;(with_reducible refine(ententeref03_Show.calls aV aH aK _ _ aA bD bE _ ?side1 ?side2 dX.out).mono ?_);(case side1=> exact(Kd.R_reads' HO_427002.out).2.2);(case side2=> exact(Kd.R_reads' HO_427002.out).2.1);rintro e gN ⟨rfl,hb⟩;refine⟨_,rfl,?_⟩;replace HO_427002:=am (Kd.R_below (by exact HO_427002.out) hb);replace aC:=am (blk_below aC.out hb);replace aD:=am (blk_below aD.out hb);replace HB:=am (below_step (HB.out) hb);clear hb;obtain⟨d5,d6,d7⟩:=bc3 aD.out;obtain⟨d8,d9,eA⟩:=bf3 aD.out;obtain⟨eB,eC,eD⟩:=bc3 aC.out;obtain⟨eE,eF,eG⟩:=bf3 aC.out))
            refine bodyPost_ret (results_ct rfl _ _ aM 24 #[i6 aH,i6 aK,.slice cJ aA.length cK] (0,0) _ rfl (bp (bp (bp aC.out 0) 1) 2) Tryz.underlying24 rfl (by kernel_rfl)) rfl ?_
            exact⟨_,by rfl,by exact Kd.R_mono (rf (rf (rf (Kd.R_types HO_427002.out aC.out (by decide))))) (fun _ hk=> trivial),bs3 HB.out aZ.out⟩
           ·rw[if_neg bZ]at H
            have cH:=beq_eq_false_iff_ne.mpr bZ
            have cI:=bne_iff_ne.mpr bZ
            simp only[Option.some.injEq,Prod.mk.injEq]at H
            obtain⟨rfl,rfl,rfl,rfl⟩:=H
            have f8:=aG.out
            have f9:=aE.out
            obtain⟨eH,eI,eJ⟩:=bc3 aD.out
            obtain⟨eK,eL,eM⟩:=bf3 aD.out
            obtain⟨fL,fM,eo48⟩:=Kd.R_slice HO_427002.out
            subst eo48
            go_wp2_with (first|((with_reducible refine gate_callee (f:=23) rfl ?_);refine goesL_ (some 95) rfl rfl Tryz.func23 (by kernel_rfl) rfl #[.agg #[i6 aH,i6 aK,.slice fL aA.length fM]] rfl (by(try simp only[l_m,l_c,l_n]);rfl) ?_;(with_reducible refine(ententeref03_Show.calls aV aH aK _ _ aA bD bE _ ?side1 ?side2 dX.out).mono ?_);(case side1=> exact(Kd.R_reads' HO_427002.out).2.2);(case side2=> exact(Kd.R_reads' HO_427002.out).2.1);rintro e gO ⟨rfl,hb⟩;refine⟨_,rfl,?_⟩;replace HO_427002:=am (Kd.R_below (by exact HO_427002.out) hb);replace aC:=am (blk_below aC.out hb);replace aD:=am (blk_below aD.out hb);replace HB:=am (below_step (HB.out) hb);clear hb;obtain⟨eN,eO,eP⟩:=bc3 aC.out;obtain⟨eQ,eR,eS⟩:=bf3 aC.out))
            refine bodyPost_ret (results_ct rfl _ _ aM 24 #[i6 0,i6 0,.slice none 0 0] (0,0) _ rfl (bp (bp (bp aC.out 0) 1) 2) Tryz.underlying24 rfl (by kernel_rfl)) rfl ?_
            exact⟨_,by rfl,by exact Kd.R_nil _ _ _ _ _,bs3 HB.out aZ.out⟩
          ·rw[if_neg bY]at H
           have cF:=beq_eq_false_iff_ne.mpr bY
           have cG:=bne_iff_ne.mpr bY
           simp only[Option.some.injEq,Prod.mk.injEq]at H
           obtain⟨rfl,rfl,rfl,rfl⟩:=H
           have gA:=aG.out
           have gB:=aE.out
           obtain⟨eT,eU,eV⟩:=bc3 aD.out
           obtain⟨eW,eX,eY⟩:=bf3 aD.out
           obtain⟨fN,fO,eo53⟩:=Kd.R_slice HO_427002.out
           subst eo53
           go_wp2_with (first|((with_reducible refine gate_callee (f:=23) rfl ?_);refine goesL_ (some 95) rfl rfl Tryz.func23 (by kernel_rfl) rfl #[.agg #[i6 aH,i6 aK,.slice fN aA.length fO]] rfl (by(try simp only[l_m,l_c,l_n]);rfl) ?_;(with_reducible refine(ententeref03_Show.calls aV aH aK _ _ aA bD bE _ ?side1 ?side2 dX.out).mono ?_);(case side1=> exact(Kd.R_reads' HO_427002.out).2.2);(case side2=> exact(Kd.R_reads' HO_427002.out).2.1);rintro e gP ⟨rfl,hb⟩;refine⟨_,rfl,?_⟩;replace HO_427002:=am (Kd.R_below (by exact HO_427002.out) hb);replace aC:=am (blk_below aC.out hb);replace aD:=am (blk_below aD.out hb);replace HB:=am (below_step (HB.out) hb);clear hb;obtain⟨eZ,e0,e1⟩:=bc3 aC.out;obtain⟨e2,e3,e4⟩:=bf3 aC.out))
           refine bodyPost_ret (results_ct rfl _ _ aM 24 #[i6 0,i6 0,.slice none 0 0] (0,0) _ rfl (bp (bp (bp aC.out 0) 1) 2) Tryz.underlying24 rfl (by kernel_rfl)) rfl ?_
           exact⟨_,by rfl,by exact Kd.R_nil _ _ _ _ _,bs3 HB.out aZ.out⟩
         ·replace dY:=Bool.eq_false_iff.mpr dY
          subst dY
          have H1:(some (0,0,([]:List (S46)),30))=some (r1,r2,r3,r4):=by rw[if_neg (show ¬ (false=true)by decide)]at H;exact H
          clear H
          have H:=H1
          clear H1
          simp only[Option.some.injEq,Prod.mk.injEq]at H
          obtain⟨rfl,rfl,rfl,rfl⟩:=H
          have gC:=aG.out
          have gD:=aE.out
          obtain⟨e5,e6,e7⟩:=bc3 aD.out
          obtain⟨e8,e9,fA⟩:=bf3 aD.out
          obtain⟨fP,fQ,eo58⟩:=Kd.R_slice HO_427002.out
          subst eo58
          go_wp2_with (first|((with_reducible refine gate_callee (f:=23) rfl ?_);refine goesL_ (some 95) rfl rfl Tryz.func23 (by kernel_rfl) rfl #[.agg #[i6 aH,i6 aK,.slice fP aA.length fQ]] rfl (by(try simp only[l_m,l_c,l_n]);rfl) ?_;(with_reducible refine(ententeref03_Show.calls aV aH aK _ _ aA bD bE _ ?side1 ?side2 dX.out).mono ?_);(case side1=> exact(Kd.R_reads' HO_427002.out).2.2);(case side2=> exact(Kd.R_reads' HO_427002.out).2.1);rintro e gQ ⟨rfl,hb⟩;refine⟨_,rfl,?_⟩;replace HO_427002:=am (Kd.R_below (by exact HO_427002.out) hb);replace aC:=am (blk_below aC.out hb);replace aD:=am (blk_below aD.out hb);replace HB:=am (below_step (HB.out) hb);clear hb;obtain⟨fB,fC,fD⟩:=bc3 aC.out;obtain⟨fE,fF,fG⟩:=bf3 aC.out))
          refine bodyPost_ret (results_ct rfl _ _ aM 24 #[i6 0,i6 0,.slice none 0 0] (0,0) _ rfl (bp (bp (bp aC.out 0) 1) 2) Tryz.underlying24 rfl (by kernel_rfl)) rfl ?_
          exact⟨_,by rfl,by exact Kd.R_nil _ _ _ _ _,bs3 HB.out aZ.out⟩

end Go.Proofs.YtlaeihdldofkcaaGreatDoor.PN

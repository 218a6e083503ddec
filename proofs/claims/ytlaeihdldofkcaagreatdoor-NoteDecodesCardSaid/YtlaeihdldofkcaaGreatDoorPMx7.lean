/- The machine side of this seat's laws: plain functions, and proofs that the calls do what they say; written by a program of this session over the translation; no conditions beyond those typed. -/
import Derived.Test.YtlaeihdldofkcaaGreatDoorPMx0
import Derived.Test.YtlaeihdldofkcaaGreatDoorPMx6
namespace Go.Proofs.YtlaeihdldofkcaaGreatDoor.PN
open Go.RowKit Go.Proofs.YtlaeihdldofkcaaGreatDoorW.PrintWords Go.Proofs.YtlaeihdldofkcaaGreatDoorW.PrintLast Go.Proofs.YtlaeihdldofkcaaGreatDoorW.PrintMore
attribute [local go_sem] max2_int min2_int max_two min_two max_three min_three max_four min_four   -- for this text's walks alone
open List renaming setIfInBounds_toArray → l_a, set_cons_zero → l_z, set_cons_succ → l_s, map_toArray → l_m, map_cons → l_c, map_nil → l_n
set_option linter.unusedVariables false
set_option linter.unusedSimpArgs false

/-! ### ententeref06_Name: function 64 -/
mutual
def ententeref06_Name.j0:Nat→ByteArray→Bool→Option (Bool)
 |0,_,_=> none
 |k+1,x0,bO=> if bO=true then(some false)else(ententeref06_Name.l0 k x0 0)
def ententeref06_Name.l0:Nat→ByteArray→Int→Option (Bool)
 |0,_,_=> none
 |k+1,x0,x3=> if x3< (x0.size:Int)then(if 0≤x3 then(if(bt x0 x3)≥97 then(if(bt x0 x3)≥48 then(if(bt x0 x3)≤122 then(if x3=0 then(if(bt x0 x3)≤57 then(some false)else(ententeref06_Name.l0 k x0 (wrap64 (x3+1))))else(ententeref06_Name.l0 k x0 (wrap64 (x3+1))))else(if(bt x0 x3)≤57 then(if x3=0 then(some false)else(ententeref06_Name.l0 k x0 (wrap64 (x3+1))))else(some false)))else(if(bt x0 x3)≤122 then(if x3=0 then(ententeref06_Name.l0 k x0 (wrap64 (x3+1)))else(ententeref06_Name.l0 k x0 (wrap64 (x3+1))))else(some false)))else(if(bt x0 x3)≥48 then(if(bt x0 x3)≤57 then(if x3=0 then(some false)else(ententeref06_Name.l0 k x0 (wrap64 (x3+1))))else(some false))else(some false)))else(none))else(some true)
end
def ententeref06_Name.f (k:Nat) (a0:ByteArray):Option (Bool):=if(a0.size:Int)< 1 then(ententeref06_Name.j0 k a0 true)else(ententeref06_Name.j0 k a0 (decide ((a0.size:Int)> 16)))
set_option maxHeartbeats 8000000 in
set_option maxRecDepth 100000 in
theorem ententeref06_Name.calls (k:Nat) (a0:ByteArray) (r:Bool) (w:World) (h:ententeref06_Name.f k a0=some r) :
  Calls Tryz.prog 64 #[.string a0] w fun e w'=> e=.returned (.bool r)∧Drawn0 w w':=by
 unfold ententeref06_Name.f at h
 have H:=h
 clear h
 have HC2:=am H
 clear H
 go_enter Tryz.func64,Tryz.ntmps64
 go_upto_region 1 with(fail)
 go_cut [13] (fun v13 wc=> ∃ (kq:Nat) (aG:Bool),v13=.bool aG∧Aside0 (ententeref06_Name.j0 kq a0 aG=some r)∧Aside0 (kq≤k)∧Drawn0 w wc)
 case first=>
  have H:=HC2.out
  clear HC2
  by_cases c3:(a0.size:Int)< 1
  ·rw[if_pos c3]at H
   have bJ:=decide_eq_true c3
   have bK:decide (a0.size< 1)=true:=decide_eq_true (by omega)
   clear c3
   (skip)
   have H':=am H
   clear H
   go_wp2
   go_meet
   case rel=> exact⟨_,(true),(by rfl),H',⟨by omega⟩,Drawn0.refl _⟩
  ·rw[if_neg c3]at H
   have bJ:=decide_eq_false c3
   have bK:decide (a0.size< 1)=false:=decide_eq_false (by omega)
   clear c3
   (skip)
   have H':=am H
   clear H
   go_wp2
   go_meet
   case rel=> exact⟨_,(decide ((a0.size:Int)> 16)),(by rfl),H',⟨by omega⟩,Drawn0.refl _⟩
 case rest=>
  clear HC2
  obtain⟨kq,aG,rfl,HA,aH,⟨mc1,rfl⟩⟩:=hcut
  cases kq with
  |zero=> exact absurd HA.out (by simp[ententeref06_Name.j0])
  |succ bL=>
   have H:=HA.out
   clear HA
   simp only[ententeref06_Name.j0]at H
   by_cases c4:aG=true
   ·subst c4
    have H1:(some false)=some r:=by rw[if_pos rfl]at H;exact H
    clear H
    have H:=H1
    clear H1
    obtain rfl:=Option.some.inj H
    go_wp2
    go_ret
    exact⟨by rfl,by repeat(first|exact Drawn0.refl _|apply Drawn0.step)⟩
   ·replace c4:=Bool.eq_false_iff.mpr c4
    subst c4
    have H1:(ententeref06_Name.l0 bL a0 0)=some r:=by rw[if_neg (show ¬ (false=true)by decide)]at H;exact H
    clear H
    have H:=H1
    clear H1
    have H':=am H
    clear H
    go_wp2
    go_loopg [3] bL (fun kq v3 w'=> ∃ (aA:Int),v3=i6 aA∧Aside0 (ententeref06_Name.l0 kq a0 aA=some r)∧Aside0 (kq≤bL)∧Drawn0 w w')
    case atStart=> exact⟨(0),(by rfl),H',⟨Nat.le_refl _⟩,by repeat(first|exact Drawn0.refl _|apply Drawn0.step)⟩
    case round=>
     clear H'
     obtain⟨aA,rfl,HA,aI,⟨m2,rfl⟩⟩:=hrel
     cases gk with
     |zero=> exact absurd HA.out (by simp[ententeref06_Name.l0])
     |succ k2=>
      have H:=HA.out
      clear HA
      simp only[ententeref06_Name.l0]at H
      by_cases c5:aA< (a0.size:Int)
      ·rw[if_pos c5]at H
       have bM:=decide_eq_true c5
       clear c5
       by_cases c6:0≤aA
       ·rw[if_pos c6]at H
        have bP:=decide_eq_true c6
        clear c6
        by_cases c8:(bt a0 aA)≥97
        ·rw[if_pos c8]at H
         have bN:decide (97≤(bt a0 aA))=true:=decide_eq_true c8
         clear c8
         by_cases aV:(bt a0 aA)≥48
         ·rw[if_pos aV]at H
          have a3:decide (48≤(bt a0 aA))=true:=decide_eq_true aV
          clear aV
          by_cases aW:(bt a0 aA)≤122
          ·rw[if_pos aW]at H
           have a4:=decide_eq_true aW
           clear aW
           by_cases aQ:aA=0
           ·rw[if_pos aQ]at H
            have a5:=beq_iff_eq.mpr aQ
            have a6:=bne_eq_false_iff_eq.mpr aQ
            clear aQ
            by_cases aX:(bt a0 aA)≤57
            ·rw[if_pos aX]at H
             have a7:=decide_eq_true aX
             clear aX
             obtain rfl:=Option.some.inj H
             have p7:0≤(aA:Int):=of_decide_eq_true (by(with_reducible assumption))
             have q7:aA< (a0.size:Int):=of_decide_eq_true (by(with_reducible assumption))
             have aJ:=bt_at a0 aA
             replace p7:=eq_true p7
             replace q7:=eq_true q7
             have p9:0≤(aA:Int):=of_decide_eq_true (by(with_reducible assumption))
             have q9:aA< (a0.size:Int):=of_decide_eq_true (by(with_reducible assumption))
             have aN:=bt_at a0 aA
             replace p9:=eq_true p9
             replace q9:=eq_true q9
             have aB:0≤(aA:Int):=of_decide_eq_true (by(with_reducible assumption))
             have aC:aA< (a0.size:Int):=of_decide_eq_true (by(with_reducible assumption))
             have aD:=bt_at a0 aA
             replace aB:=eq_true aB
             replace aC:=eq_true aC
             have aE:0≤(aA:Int):=of_decide_eq_true (by(with_reducible assumption))
             have aF:aA< (a0.size:Int):=of_decide_eq_true (by(with_reducible assumption))
             have aK:=bt_at a0 aA
             replace aE:=eq_true aE
             replace aF:=eq_true aF
             go_wp2
             go_ret
             exact⟨by rfl,by repeat(first|exact Drawn0.refl _|apply Drawn0.step)⟩
            ·rw[if_neg aX]at H
             have a7:=decide_eq_false aX
             clear aX
             have H':=am H
             clear H
             have p7:0≤(aA:Int):=of_decide_eq_true (by(with_reducible assumption))
             have q7:aA< (a0.size:Int):=of_decide_eq_true (by(with_reducible assumption))
             have aJ:=bt_at a0 aA
             replace p7:=eq_true p7
             replace q7:=eq_true q7
             have p9:0≤(aA:Int):=of_decide_eq_true (by(with_reducible assumption))
             have q9:aA< (a0.size:Int):=of_decide_eq_true (by(with_reducible assumption))
             have aN:=bt_at a0 aA
             replace p9:=eq_true p9
             replace q9:=eq_true q9
             have aB:0≤(aA:Int):=of_decide_eq_true (by(with_reducible assumption))
             have aC:aA< (a0.size:Int):=of_decide_eq_true (by(with_reducible assumption))
             have aD:=bt_at a0 aA
             replace aB:=eq_true aB
             replace aC:=eq_true aC
             have aE:0≤(aA:Int):=of_decide_eq_true (by(with_reducible assumption))
             have aF:aA< (a0.size:Int):=of_decide_eq_true (by(with_reducible assumption))
             have aK:=bt_at a0 aA
             replace aE:=eq_true aE
             replace aF:=eq_true aF
             go_wp2
             go_roundg k2
             case measure=> have:=aH.out;have:=aI.out;omega
             case rel=> exact⟨(wrap64 (aA+1)),(by rfl),H',⟨by have:=aH.out;have:=aI.out;omega⟩,by repeat(first|exact Drawn0.refl _|apply Drawn0.step)⟩
           ·rw[if_neg aQ]at H
            have a5:=beq_eq_false_iff_ne.mpr aQ
            have a6:=bne_iff_ne.mpr aQ
            have H':=am H
            clear H
            have p7:0≤(aA:Int):=of_decide_eq_true (by(with_reducible assumption))
            have q7:aA< (a0.size:Int):=of_decide_eq_true (by(with_reducible assumption))
            have aJ:=bt_at a0 aA
            replace p7:=eq_true p7
            replace q7:=eq_true q7
            have p9:0≤(aA:Int):=of_decide_eq_true (by(with_reducible assumption))
            have q9:aA< (a0.size:Int):=of_decide_eq_true (by(with_reducible assumption))
            have aN:=bt_at a0 aA
            replace p9:=eq_true p9
            replace q9:=eq_true q9
            have aB:0≤(aA:Int):=of_decide_eq_true (by(with_reducible assumption))
            have aC:aA< (a0.size:Int):=of_decide_eq_true (by(with_reducible assumption))
            have aD:=bt_at a0 aA
            replace aB:=eq_true aB
            replace aC:=eq_true aC
            have aE:0≤(aA:Int):=of_decide_eq_true (by(with_reducible assumption))
            have aF:aA< (a0.size:Int):=of_decide_eq_true (by(with_reducible assumption))
            have aK:=bt_at a0 aA
            replace aE:=eq_true aE
            replace aF:=eq_true aF
            go_wp2
            go_roundg k2
            case measure=> have:=aH.out;have:=aI.out;omega
            case rel=> exact⟨(wrap64 (aA+1)),(by rfl),H',⟨by have:=aH.out;have:=aI.out;omega⟩,by repeat(first|exact Drawn0.refl _|apply Drawn0.step)⟩
          ·rw[if_neg aW]at H
           have a4:=decide_eq_false aW
           clear aW
           by_cases aY:(bt a0 aA)≤57
           ·rw[if_pos aY]at H
            have a8:=decide_eq_true aY
            clear aY
            by_cases aR:aA=0
            ·rw[if_pos aR]at H
             have a9:=beq_iff_eq.mpr aR
             have bA:=bne_eq_false_iff_eq.mpr aR
             clear aR
             obtain rfl:=Option.some.inj H
             have p7:0≤(aA:Int):=of_decide_eq_true (by(with_reducible assumption))
             have q7:aA< (a0.size:Int):=of_decide_eq_true (by(with_reducible assumption))
             have aJ:=bt_at a0 aA
             replace p7:=eq_true p7
             replace q7:=eq_true q7
             have p9:0≤(aA:Int):=of_decide_eq_true (by(with_reducible assumption))
             have q9:aA< (a0.size:Int):=of_decide_eq_true (by(with_reducible assumption))
             have aN:=bt_at a0 aA
             replace p9:=eq_true p9
             replace q9:=eq_true q9
             have aB:0≤(aA:Int):=of_decide_eq_true (by(with_reducible assumption))
             have aC:aA< (a0.size:Int):=of_decide_eq_true (by(with_reducible assumption))
             have aD:=bt_at a0 aA
             replace aB:=eq_true aB
             replace aC:=eq_true aC
             have aE:0≤(aA:Int):=of_decide_eq_true (by(with_reducible assumption))
             have aF:aA< (a0.size:Int):=of_decide_eq_true (by(with_reducible assumption))
             have aK:=bt_at a0 aA
             replace aE:=eq_true aE
             replace aF:=eq_true aF
             go_wp2
             go_ret
             exact⟨by rfl,by repeat(first|exact Drawn0.refl _|apply Drawn0.step)⟩
            ·rw[if_neg aR]at H
             have a9:=beq_eq_false_iff_ne.mpr aR
             have bA:=bne_iff_ne.mpr aR
             have H':=am H
             clear H
             have p7:0≤(aA:Int):=of_decide_eq_true (by(with_reducible assumption))
             have q7:aA< (a0.size:Int):=of_decide_eq_true (by(with_reducible assumption))
             have aJ:=bt_at a0 aA
             replace p7:=eq_true p7
             replace q7:=eq_true q7
             have p9:0≤(aA:Int):=of_decide_eq_true (by(with_reducible assumption))
             have q9:aA< (a0.size:Int):=of_decide_eq_true (by(with_reducible assumption))
             have aN:=bt_at a0 aA
             replace p9:=eq_true p9
             replace q9:=eq_true q9
             have aB:0≤(aA:Int):=of_decide_eq_true (by(with_reducible assumption))
             have aC:aA< (a0.size:Int):=of_decide_eq_true (by(with_reducible assumption))
             have aD:=bt_at a0 aA
             replace aB:=eq_true aB
             replace aC:=eq_true aC
             have aE:0≤(aA:Int):=of_decide_eq_true (by(with_reducible assumption))
             have aF:aA< (a0.size:Int):=of_decide_eq_true (by(with_reducible assumption))
             have aK:=bt_at a0 aA
             replace aE:=eq_true aE
             replace aF:=eq_true aF
             go_wp2
             go_roundg k2
             case measure=> have:=aH.out;have:=aI.out;omega
             case rel=> exact⟨(wrap64 (aA+1)),(by rfl),H',⟨by have:=aH.out;have:=aI.out;omega⟩,by repeat(first|exact Drawn0.refl _|apply Drawn0.step)⟩
           ·rw[if_neg aY]at H
            have a8:=decide_eq_false aY
            clear aY
            obtain rfl:=Option.some.inj H
            have p7:0≤(aA:Int):=of_decide_eq_true (by(with_reducible assumption))
            have q7:aA< (a0.size:Int):=of_decide_eq_true (by(with_reducible assumption))
            have aJ:=bt_at a0 aA
            replace p7:=eq_true p7
            replace q7:=eq_true q7
            have p9:0≤(aA:Int):=of_decide_eq_true (by(with_reducible assumption))
            have q9:aA< (a0.size:Int):=of_decide_eq_true (by(with_reducible assumption))
            have aN:=bt_at a0 aA
            replace p9:=eq_true p9
            replace q9:=eq_true q9
            have aB:0≤(aA:Int):=of_decide_eq_true (by(with_reducible assumption))
            have aC:aA< (a0.size:Int):=of_decide_eq_true (by(with_reducible assumption))
            have aD:=bt_at a0 aA
            replace aB:=eq_true aB
            replace aC:=eq_true aC
            have aE:0≤(aA:Int):=of_decide_eq_true (by(with_reducible assumption))
            have aF:aA< (a0.size:Int):=of_decide_eq_true (by(with_reducible assumption))
            have aK:=bt_at a0 aA
            replace aE:=eq_true aE
            replace aF:=eq_true aF
            go_wp2
            go_ret
            exact⟨by rfl,by repeat(first|exact Drawn0.refl _|apply Drawn0.step)⟩
         ·rw[if_neg aV]at H
          have a3:decide (48≤(bt a0 aA))=false:=decide_eq_false aV
          clear aV
          by_cases aZ:(bt a0 aA)≤122
          ·rw[if_pos aZ]at H
           have bB:=decide_eq_true aZ
           clear aZ
           by_cases aS:aA=0
           ·rw[if_pos aS]at H
            have bC:=beq_iff_eq.mpr aS
            have bD:=bne_eq_false_iff_eq.mpr aS
            clear aS
            have H':=am H
            clear H
            have p7:0≤(aA:Int):=of_decide_eq_true (by(with_reducible assumption))
            have q7:aA< (a0.size:Int):=of_decide_eq_true (by(with_reducible assumption))
            have aJ:=bt_at a0 aA
            replace p7:=eq_true p7
            replace q7:=eq_true q7
            have p9:0≤(aA:Int):=of_decide_eq_true (by(with_reducible assumption))
            have q9:aA< (a0.size:Int):=of_decide_eq_true (by(with_reducible assumption))
            have aN:=bt_at a0 aA
            replace p9:=eq_true p9
            replace q9:=eq_true q9
            have aB:0≤(aA:Int):=of_decide_eq_true (by(with_reducible assumption))
            have aC:aA< (a0.size:Int):=of_decide_eq_true (by(with_reducible assumption))
            have aD:=bt_at a0 aA
            replace aB:=eq_true aB
            replace aC:=eq_true aC
            go_wp2
            go_roundg k2
            case measure=> have:=aH.out;have:=aI.out;omega
            case rel=> exact⟨(wrap64 (aA+1)),(by rfl),H',⟨by have:=aH.out;have:=aI.out;omega⟩,by repeat(first|exact Drawn0.refl _|apply Drawn0.step)⟩
           ·rw[if_neg aS]at H
            have bC:=beq_eq_false_iff_ne.mpr aS
            have bD:=bne_iff_ne.mpr aS
            have H':=am H
            clear H
            have p7:0≤(aA:Int):=of_decide_eq_true (by(with_reducible assumption))
            have q7:aA< (a0.size:Int):=of_decide_eq_true (by(with_reducible assumption))
            have aJ:=bt_at a0 aA
            replace p7:=eq_true p7
            replace q7:=eq_true q7
            have p9:0≤(aA:Int):=of_decide_eq_true (by(with_reducible assumption))
            have q9:aA< (a0.size:Int):=of_decide_eq_true (by(with_reducible assumption))
            have aN:=bt_at a0 aA
            replace p9:=eq_true p9
            replace q9:=eq_true q9
            have aB:0≤(aA:Int):=of_decide_eq_true (by(with_reducible assumption))
            have aC:aA< (a0.size:Int):=of_decide_eq_true (by(with_reducible assumption))
            have aD:=bt_at a0 aA
            replace aB:=eq_true aB
            replace aC:=eq_true aC
            go_wp2
            go_roundg k2
            case measure=> have:=aH.out;have:=aI.out;omega
            case rel=> exact⟨(wrap64 (aA+1)),(by rfl),H',⟨by have:=aH.out;have:=aI.out;omega⟩,by repeat(first|exact Drawn0.refl _|apply Drawn0.step)⟩
          ·rw[if_neg aZ]at H
           have bB:=decide_eq_false aZ
           clear aZ
           obtain rfl:=Option.some.inj H
           have p7:0≤(aA:Int):=of_decide_eq_true (by(with_reducible assumption))
           have q7:aA< (a0.size:Int):=of_decide_eq_true (by(with_reducible assumption))
           have aJ:=bt_at a0 aA
           replace p7:=eq_true p7
           replace q7:=eq_true q7
           have p9:0≤(aA:Int):=of_decide_eq_true (by(with_reducible assumption))
           have q9:aA< (a0.size:Int):=of_decide_eq_true (by(with_reducible assumption))
           have aN:=bt_at a0 aA
           replace p9:=eq_true p9
           replace q9:=eq_true q9
           have aB:0≤(aA:Int):=of_decide_eq_true (by(with_reducible assumption))
           have aC:aA< (a0.size:Int):=of_decide_eq_true (by(with_reducible assumption))
           have aD:=bt_at a0 aA
           replace aB:=eq_true aB
           replace aC:=eq_true aC
           go_wp2
           go_ret
           exact⟨by rfl,by repeat(first|exact Drawn0.refl _|apply Drawn0.step)⟩
        ·rw[if_neg c8]at H
         have bN:decide (97≤(bt a0 aA))=false:=decide_eq_false c8
         clear c8
         by_cases a1:(bt a0 aA)≥48
         ·rw[if_pos a1]at H
          have bE:decide (48≤(bt a0 aA))=true:=decide_eq_true a1
          clear a1
          by_cases a2:(bt a0 aA)≤57
          ·rw[if_pos a2]at H
           have bF:=decide_eq_true a2
           clear a2
           by_cases aT:aA=0
           ·rw[if_pos aT]at H
            have bG:=beq_iff_eq.mpr aT
            have bH:=bne_eq_false_iff_eq.mpr aT
            clear aT
            obtain rfl:=Option.some.inj H
            have p7:0≤(aA:Int):=of_decide_eq_true (by(with_reducible assumption))
            have q7:aA< (a0.size:Int):=of_decide_eq_true (by(with_reducible assumption))
            have aJ:=bt_at a0 aA
            replace p7:=eq_true p7
            replace q7:=eq_true q7
            have aL:0≤(aA:Int):=of_decide_eq_true (by(with_reducible assumption))
            have aM:aA< (a0.size:Int):=of_decide_eq_true (by(with_reducible assumption))
            have aU:=bt_at a0 aA
            replace aL:=eq_true aL
            replace aM:=eq_true aM
            have aO:0≤(aA:Int):=of_decide_eq_true (by(with_reducible assumption))
            have aP:aA< (a0.size:Int):=of_decide_eq_true (by(with_reducible assumption))
            have bI:=bt_at a0 aA
            replace aO:=eq_true aO
            replace aP:=eq_true aP
            go_wp2
            go_ret
            exact⟨by rfl,by repeat(first|exact Drawn0.refl _|apply Drawn0.step)⟩
           ·rw[if_neg aT]at H
            have bG:=beq_eq_false_iff_ne.mpr aT
            have bH:=bne_iff_ne.mpr aT
            have H':=am H
            clear H
            have p7:0≤(aA:Int):=of_decide_eq_true (by(with_reducible assumption))
            have q7:aA< (a0.size:Int):=of_decide_eq_true (by(with_reducible assumption))
            have aJ:=bt_at a0 aA
            replace p7:=eq_true p7
            replace q7:=eq_true q7
            have aL:0≤(aA:Int):=of_decide_eq_true (by(with_reducible assumption))
            have aM:aA< (a0.size:Int):=of_decide_eq_true (by(with_reducible assumption))
            have aU:=bt_at a0 aA
            replace aL:=eq_true aL
            replace aM:=eq_true aM
            have aO:0≤(aA:Int):=of_decide_eq_true (by(with_reducible assumption))
            have aP:aA< (a0.size:Int):=of_decide_eq_true (by(with_reducible assumption))
            have bI:=bt_at a0 aA
            replace aO:=eq_true aO
            replace aP:=eq_true aP
            go_wp2
            go_roundg k2
            case measure=> have:=aH.out;have:=aI.out;omega
            case rel=> exact⟨(wrap64 (aA+1)),(by rfl),H',⟨by have:=aH.out;have:=aI.out;omega⟩,by repeat(first|exact Drawn0.refl _|apply Drawn0.step)⟩
          ·rw[if_neg a2]at H
           have bF:=decide_eq_false a2
           clear a2
           obtain rfl:=Option.some.inj H
           have p7:0≤(aA:Int):=of_decide_eq_true (by(with_reducible assumption))
           have q7:aA< (a0.size:Int):=of_decide_eq_true (by(with_reducible assumption))
           have aJ:=bt_at a0 aA
           replace p7:=eq_true p7
           replace q7:=eq_true q7
           have aL:0≤(aA:Int):=of_decide_eq_true (by(with_reducible assumption))
           have aM:aA< (a0.size:Int):=of_decide_eq_true (by(with_reducible assumption))
           have aU:=bt_at a0 aA
           replace aL:=eq_true aL
           replace aM:=eq_true aM
           have aO:0≤(aA:Int):=of_decide_eq_true (by(with_reducible assumption))
           have aP:aA< (a0.size:Int):=of_decide_eq_true (by(with_reducible assumption))
           have bI:=bt_at a0 aA
           replace aO:=eq_true aO
           replace aP:=eq_true aP
           go_wp2
           go_ret
           exact⟨by rfl,by repeat(first|exact Drawn0.refl _|apply Drawn0.step)⟩
         ·rw[if_neg a1]at H
          have bE:decide (48≤(bt a0 aA))=false:=decide_eq_false a1
          clear a1
          obtain rfl:=Option.some.inj H
          have p7:0≤(aA:Int):=of_decide_eq_true (by(with_reducible assumption))
          have q7:aA< (a0.size:Int):=of_decide_eq_true (by(with_reducible assumption))
          have aJ:=bt_at a0 aA
          replace p7:=eq_true p7
          replace q7:=eq_true q7
          have aL:0≤(aA:Int):=of_decide_eq_true (by(with_reducible assumption))
          have aM:aA< (a0.size:Int):=of_decide_eq_true (by(with_reducible assumption))
          have aU:=bt_at a0 aA
          replace aL:=eq_true aL
          replace aM:=eq_true aM
          go_wp2
          go_ret
          exact⟨by rfl,by repeat(first|exact Drawn0.refl _|apply Drawn0.step)⟩
       ·rw[if_neg c6]at H
        exact absurd H (by simp)
      ·rw[if_neg c5]at H
       have bM:=decide_eq_false c5
       clear c5
       obtain rfl:=Option.some.inj H
       go_wp2
       go_ret
       exact⟨by rfl,by repeat(first|exact Drawn0.refl _|apply Drawn0.step)⟩

/-! ### ententeref13_Check: function 49 -/
mutual
def ententeref13_Check.j0:Nat→Bool→Int→Int→Int→List (S46)→ByteArray→Int→Option (Int)
 |0,_,_,_,_,_,_,_=> none
 |k+1,gE,aI,aK,aL,aM,aJ,aH=> if gE=true then(some 130)else(if aI=1 then((ententeref06_Name.f k aJ).bind fun aP=> (if aP=true then(ententeref13_Check.j1 k false aI aK aL aM aJ aH)else(ententeref13_Check.j1 k true aI aK aL aM aJ aH)))else(ententeref13_Check.j1 k (aJ.toList !=([]:List UInt8)) aI aK aL aM aJ aH))
def ententeref13_Check.j1:Nat→Bool→Int→Int→Int→List (S46)→ByteArray→Int→Option (Int)
 |0,_,_,_,_,_,_,_=> none
 |k+1,gF,aI,aK,aL,aM,aJ,aH=> if gF=true then(some 130)else(if aI=6 then(if aH< 1 then(some 130)else(if aH> 9 then(some 130)else(some 0)))else(if aH=0 then(some 0)else(some 130)))
end
def ententeref13_Check.f (k:Nat) (aB:Int) (aF:Int) (aG:Int) (aC:List (S46)) (aE:ByteArray) (aD:Int):Option (Int):=if aB< 1 then(ententeref13_Check.j0 k true aB aF aG aC aE aD)else(if aB> 7 then(ententeref13_Check.j0 k true aB aF aG aC aE aD)else((ententeref03_Check.f k aF aG aC).bind fun aQ=> (if aQ=0 then(ententeref13_Check.j0 k ((aC.length:Int)==0) aB aF aG aC aE aD)else(ententeref13_Check.j0 k true aB aF aG aC aE aD))))
set_option maxHeartbeats 8000000 in
set_option maxRecDepth 100000 in
theorem ententeref13_Check.calls (k:Nat) (aB:Int) (aF:Int) (aG:Int) (aR:Option Addr) (c0_3:Nat) (aC:List (S46)) (aE:ByteArray) (aD:Int) (r:Int) (w:World) (aT:Kd.C k46 w aR aC.length aC) (aU:aC.length≤c0_3) (h:ententeref13_Check.f k aB aF aG aC aE aD=some r) :
  Calls Tryz.prog 49 #[.agg #[i6 aB,i6 aF,i6 aG,.slice aR aC.length c0_3,.string aE,i6 aD]] w fun e w'=> e=.returned (i6 r)∧Below w.heap.size w w':=by
 have hu26:=Tryz.underlying26
 have hu24:=Tryz.underlying24
 have aV:=am aT
 have aW:=am aU
 clear aT aU
 have HB:=am (Below.refl w.heap.size w)
 unfold ententeref13_Check.f at h
 have H:=h
 clear h
 have HC2:=am H
 clear H
 go_enter Tryz.func49,Tryz.ntmps49
 go_upto_region 1 with(first|((with_reducible refine gate_dst (N:=1) rfl ?_);(try(refine gate_guard (by rfl) ?_;dsimp only));refine box_event ?hg (N:=1) ?hd (cs:=#[i6 aB,i6 aF,i6 aG,.slice aR aC.length c0_3,.string aE,i6 aD]) (t:=26) ?hr ?_;(case hd=> rfl);(case hg=> rfl);(case hr=> (go_simp;done));intro aX hg w3 hbox hb;have aA:=am (hbox);have gA:=am (gsz hg HB.out);have gB:=am (gsz hg HB.out);replace HB:=am (below_step (HB.out) hb);clear hb hbox hg))
 (try simp only[Act.put,l_a,l_z,l_s])
 go_cut [23] (fun v23 wc=> ∃ (kq:Nat) (aO:Bool),v23=.bool aO∧Aside0 (ententeref13_Check.j0 kq aO aB aF aG aC aE aD=some r)∧Aside0 (kq≤k)∧Aside0 (wc.heap[aX]?=some (.cells #[i6 aB,i6 aF,i6 aG,(.slice aR aC.length c0_3),.string aE,i6 aD] 26 (0,0)))∧Aside0 (Below w.heap.size w wc))
 case first=>
  have H:=HC2.out
  clear HC2
  by_cases c4:aB< 1
  ·rw[if_pos c4]at H
   have fH:=decide_eq_true c4
   clear c4
   (skip)
   have H':=am H
   clear H
   obtain⟨fI,fJ,fK,fL,fM,fN⟩:=bc6 aA.out
   obtain⟨fO,fP,fQ,fR,fS,fT⟩:=bf6 aA.out
   go_wp2
   go_meet
   case rel=> exact⟨_,(true),(by rfl),H',⟨by omega⟩,⟨by exact aA.out⟩,⟨HB.out⟩⟩
  ·rw[if_neg c4]at H
   have fH:=decide_eq_false c4
   clear c4
   (skip)
   by_cases c6:aB> 7
   ·rw[if_pos c6]at H
    have fU:decide (7< aB)=true:=decide_eq_true c6
    clear c6
    have H':=am H
    clear H
    obtain⟨fV,fW,fX,fY,fZ,f0⟩:=bc6 aA.out
    obtain⟨f1,f2,f3,f4,f5,f6⟩:=bf6 aA.out
    go_wp2
    go_meet
    case rel=> exact⟨_,(true),(by rfl),H',⟨by omega⟩,⟨by exact aA.out⟩,⟨HB.out⟩⟩
   ·rw[if_neg c6]at H
    have fU:decide (7< aB)=false:=decide_eq_false c6
    clear c6
    obtain⟨aQ,gC,H⟩:=Option.bind_eq_some_iff.mp H
    try dsimp only at H
    have A8:=am gC
    clear gC
    by_cases c9:aQ=0
    ·rw[if_pos c9]at H
     have f7:=beq_iff_eq.mpr c9
     have f8:=bne_eq_false_iff_eq.mpr c9
     clear c9
     have H':=am H
     clear H
     obtain⟨bI,bJ,bK,bL,bM,bN⟩:=bc6 aA.out
     obtain⟨bO,bP,bQ,bR,bS,bT⟩:=bf6 aA.out
     go_wp2_with (first|(go_at_call 45;(with_reducible refine(ententeref03_Check.calls k aF aG _ _ aC aQ _ ?side1 ?side2 A8.out).mono ?_);(case side1=> exact(Kd.C_below aV.out HB.out));(case side2=> exact aW.out);rintro e gI ⟨rfl,hb⟩;replace aA:=am (blk_below aA.out hb);replace HB:=am (below_step (HB.out) hb);clear hb;obtain⟨bU,bV,bW,bX,bY,bZ⟩:=bc6 aA.out;obtain⟨b0,b1,b2,b3,b4,b5⟩:=bf6 aA.out))
     go_meet
     case rel=> exact⟨_,(((aC.length:Int)==0)),(by rfl),H',⟨by omega⟩,⟨by exact aA.out⟩,⟨HB.out⟩⟩
    ·rw[if_neg c9]at H
     have f7:=beq_eq_false_iff_ne.mpr c9
     have f8:=bne_iff_ne.mpr c9
     have H':=am H
     clear H
     obtain⟨b6,b7,b8,b9,cA,cB⟩:=bc6 aA.out
     obtain⟨cC,cD,cE,cF,cG,cH⟩:=bf6 aA.out
     go_wp2_with (first|(go_at_call 45;(with_reducible refine(ententeref03_Check.calls k aF aG _ _ aC aQ _ ?side1 ?side2 A8.out).mono ?_);(case side1=> exact(Kd.C_below aV.out HB.out));(case side2=> exact aW.out);rintro e gJ ⟨rfl,hb⟩;replace aA:=am (blk_below aA.out hb);replace HB:=am (below_step (HB.out) hb);clear hb))
     go_meet
     case rel=> exact⟨_,(true),(by rfl),H',⟨by omega⟩,⟨by exact aA.out⟩,⟨HB.out⟩⟩
 case rest=>
  clear HC2
  obtain⟨kq,aO,rfl,HA,f9,aA,HB⟩:=hcut
  cases kq with
  |zero=> exact absurd HA.out (by simp[ententeref13_Check.j0])
  |succ aS=>
   have H:=HA.out
   clear HA
   simp only[ententeref13_Check.j0]at H
   by_cases cI:aO=true
   ·subst cI
    have H1:(some 130)=some r:=by rw[if_pos rfl]at H;exact H
    clear H
    have H:=H1
    clear H1
    obtain rfl:=Option.some.inj H
    go_wp2
    go_ret
    exact⟨by rfl,HB.out⟩
   ·replace cI:=Bool.eq_false_iff.mpr cI
    subst cI
    have H1:(if aB=1 then((ententeref06_Name.f aS aE).bind fun aP=> (if aP=true then(ententeref13_Check.j1 aS false aB aF aG aC aE aD)else(ententeref13_Check.j1 aS true aB aF aG aC aE aD)))else(ententeref13_Check.j1 aS (aE.toList !=([]:List UInt8)) aB aF aG aC aE aD))=some r:=by rw[if_neg (show ¬ (false=true)by decide)]at H;exact H
    clear H
    have H:=H1
    clear H1
    have HC16:=am H
    clear H
    go_upto_region 3 with(fail)
    go_cut [42] (fun v42 wc=> ∃ (kq:Nat) (aN:Bool),v42=.bool aN∧Aside0 (ententeref13_Check.j1 kq aN aB aF aG aC aE aD=some r)∧Aside0 (kq≤aS)∧Aside0 (wc.heap[aX]?=some (.cells #[i6 aB,i6 aF,i6 aG,(.slice aR aC.length c0_3),.string aE,i6 aD] 26 (0,0)))∧Aside0 (Below w.heap.size w wc))
    case first=>
     have H:=HC16.out
     clear HC16
     by_cases aY:aB=1
     ·rw[if_pos aY]at H
      have a9:=beq_iff_eq.mpr aY
      have bA:=bne_eq_false_iff_eq.mpr aY
      clear aY
      (skip)
      obtain⟨aP,bB,H⟩:=Option.bind_eq_some_iff.mp H
      try dsimp only at H
      have gD:=am bB
      clear bB
      by_cases cJ:aP=true
      ·subst cJ
       have H1:(ententeref13_Check.j1 aS false aB aF aG aC aE aD)=some r:=by rw[if_pos rfl]at H;exact H
       clear H
       have H:=H1
       clear H1
       have H':=am H
       clear H
       obtain⟨cK,cL,cM,cN,cO,cP⟩:=bc6 aA.out
       obtain⟨cQ,cR,cS,cT,cU,cV⟩:=bf6 aA.out
       go_wp2_with (first|(go_at_call 64;(with_reducible refine(ententeref06_Name.calls aS aE true _ gD.out).mono ?_);rintro e w' ⟨rfl,⟨nd,rfl⟩⟩))
       go_meet
       case rel=> exact⟨_,(false),(by rfl),H',⟨by have:=f9.out;omega⟩,⟨by refine blk_drewN ?_ _;exact aA.out⟩,⟨pw_below_drewN HB.out _⟩⟩
      ·replace cJ:=Bool.eq_false_iff.mpr cJ
       subst cJ
       have H1:(ententeref13_Check.j1 aS true aB aF aG aC aE aD)=some r:=by rw[if_neg (show ¬ (false=true)by decide)]at H;exact H
       clear H
       have H:=H1
       clear H1
       have H':=am H
       clear H
       obtain⟨cW,cX,cY,cZ,c0,c1⟩:=bc6 aA.out
       obtain⟨dA,dB,dC,dD,dE,dF⟩:=bf6 aA.out
       go_wp2_with (first|(go_at_call 64;(with_reducible refine(ententeref06_Name.calls aS aE false _ gD.out).mono ?_);rintro e w' ⟨rfl,⟨nd,rfl⟩⟩))
       go_meet
       case rel=> exact⟨_,(true),(by rfl),H',⟨by have:=f9.out;omega⟩,⟨by refine blk_drewN ?_ _;exact aA.out⟩,⟨pw_below_drewN HB.out _⟩⟩
     ·rw[if_neg aY]at H
      have a9:=beq_eq_false_iff_ne.mpr aY
      have bA:=bne_iff_ne.mpr aY
      (skip)
      have H':=am H
      clear H
      obtain⟨dG,dH,dI,dJ,dK,dL⟩:=bc6 aA.out
      obtain⟨dM,dN,dO,dP,dQ,dR⟩:=bf6 aA.out
      go_wp2
      go_meet
      case rel=> exact⟨_,((aE.toList !=([]:List UInt8))),(by(simp;exact xt_emp _)),H',⟨by have:=f9.out;omega⟩,⟨by exact aA.out⟩,⟨HB.out⟩⟩
    case rest=>
     clear HC16
     obtain⟨kq,aN,rfl,HA,gG,aA,HB⟩:=hcut
     cases kq with
     |zero=> exact absurd HA.out (by simp[ententeref13_Check.j1])
     |succ gH=>
      have H:=HA.out
      clear HA
      simp only[ententeref13_Check.j1]at H
      by_cases dS:aN=true
      ·subst dS
       have H1:(some 130)=some r:=by rw[if_pos rfl]at H;exact H
       clear H
       have H:=H1
       clear H1
       obtain rfl:=Option.some.inj H
       go_wp2
       go_ret
       exact⟨by rfl,HB.out⟩
      ·replace dS:=Bool.eq_false_iff.mpr dS
       subst dS
       have H1:(if aB=6 then(if aD< 1 then(some 130)else(if aD> 9 then(some 130)else(some 0)))else(if aD=0 then(some 0)else(some 130)))=some r:=by rw[if_neg (show ¬ (false=true)by decide)]at H;exact H
       clear H
       have H:=H1
       clear H1
       by_cases aZ:aB=6
       ·rw[if_pos aZ]at H
        have bC:=beq_iff_eq.mpr aZ
        have bD:=bne_eq_false_iff_eq.mpr aZ
        clear aZ
        by_cases a7:aD< 1
        ·rw[if_pos a7]at H
         have bE:=decide_eq_true a7
         clear a7
         obtain rfl:=Option.some.inj H
         obtain⟨dT,dU,dV,dW,dX,dY⟩:=bc6 aA.out
         obtain⟨dZ,d0,d1,d2,d3,d4⟩:=bf6 aA.out
         go_wp2
         go_ret
         exact⟨by rfl,HB.out⟩
        ·rw[if_neg a7]at H
         have bE:=decide_eq_false a7
         clear a7
         by_cases a8:aD> 9
         ·rw[if_pos a8]at H
          have bF:decide (9< aD)=true:=decide_eq_true a8
          clear a8
          obtain rfl:=Option.some.inj H
          obtain⟨d5,d6,d7,d8,d9,eA⟩:=bc6 aA.out
          obtain⟨eB,eC,eD,eE,eF,eG⟩:=bf6 aA.out
          go_wp2
          go_ret
          exact⟨by rfl,HB.out⟩
         ·rw[if_neg a8]at H
          have bF:decide (9< aD)=false:=decide_eq_false a8
          clear a8
          obtain rfl:=Option.some.inj H
          obtain⟨eH,eI,eJ,eK,eL,eM⟩:=bc6 aA.out
          obtain⟨eN,eO,eP,eQ,eR,eS⟩:=bf6 aA.out
          go_wp2
          go_ret
          exact⟨by rfl,HB.out⟩
       ·rw[if_neg aZ]at H
        have bC:=beq_eq_false_iff_ne.mpr aZ
        have bD:=bne_iff_ne.mpr aZ
        by_cases a6:aD=0
        ·rw[if_pos a6]at H
         have bG:=beq_iff_eq.mpr a6
         have bH:=bne_eq_false_iff_eq.mpr a6
         clear a6
         obtain rfl:=Option.some.inj H
         obtain⟨eT,eU,eV,eW,eX,eY⟩:=bc6 aA.out
         obtain⟨eZ,e0,e1,e2,e3,e4⟩:=bf6 aA.out
         go_wp2
         go_ret
         exact⟨by rfl,HB.out⟩
        ·rw[if_neg a6]at H
         have bG:=beq_eq_false_iff_ne.mpr a6
         have bH:=bne_iff_ne.mpr a6
         obtain rfl:=Option.some.inj H
         obtain⟨e5,e6,e7,e8,e9,fA⟩:=bc6 aA.out
         obtain⟨fB,fC,fD,fE,fF,fG⟩:=bf6 aA.out
         go_wp2
         go_ret
         exact⟨by rfl,HB.out⟩

/-! ### ententeref03_Path: function 50 -/
def ententeref03_Path.l0:Nat→List Int→Int→Int→Int→List (S46)→Option (List Int)
 |0,_,_,_,_,_=> none
 |k+1,x3,x4,aR,aT,aH=> if x4< (aH.length:Int)then(if 0≤x4 then(if x3.length< 17592186044416 then(ententeref03_Path.l0 k (x3++[(rd_T46 aH x4).f1]) (wrap64 (x4+1)) aR aT aH)else(none))else(none))else(some x3)
def ententeref03_Path.f (k:Nat) (aD:Int) (aE:Int) (aC:List (S46)):Option (List Int):=(ententeref03_Check.f k aD aE aC).bind fun aN=> (if aN=0 then(ententeref03_Path.l0 k (([aD]:List Int)) 0 aD aE aC)else(some ([]:List Int)))
set_option maxHeartbeats 8000000 in
set_option maxRecDepth 100000 in
theorem ententeref03_Path.calls (k:Nat) (aD:Int) (aE:Int) (aK:Option Addr) (c0_2:Nat) (aC:List (S46)) (r:List Int) (w:World) (aU:Kd.C k46 w aK aC.length aC) (aV:aC.length≤c0_2) (h:ententeref03_Path.f k aD aE aC=some r) :
  Calls Tryz.prog 50 #[.agg #[i6 aD,i6 aE,.slice aK aC.length c0_2]] w fun e w'=> ∃ v0_:Value,e=.returned (v0_)∧Kd.R (Kd.int .i64) 3 w' w.heap.size (fun _=> True) v0_ r∧Below w.heap.size w w':=by
 have hu24:=Tryz.underlying24
 have aQ:=am aU
 have aW:=am aV
 clear aU aV
 have HB:=am (Below.refl w.heap.size w)
 unfold ententeref03_Path.f at h
 have H:=h
 clear h
 obtain⟨aN,b8,H⟩:=Option.bind_eq_some_iff.mp H
 try dsimp only at H
 have A2:=am b8
 clear b8
 by_cases c3:aN=0
 ·rw[if_pos c3]at H
  have bF:=beq_iff_eq.mpr c3
  have bG:=bne_eq_false_iff_eq.mpr c3
  clear c3
  obtain⟨bH,hy334⟩:∃ y_:List Int,y_=(([aD]:List Int)):=⟨_,rfl⟩
  replace H:(ententeref03_Path.l0 k bH 0 aD aE aC)=some r:=by(rw[hy334];with_reducible exact H)
  have Ny334:=am hy334
  clear hy334
  have H':=am H
  clear H
  go_enter Tryz.func50,Tryz.ntmps50
  go_wp2_with (first|((with_reducible refine gate_dst (N:=1) rfl ?_);refine box_event ?hg (N:=1) ?hd (cs:=#[i6 aD,i6 aE,.slice aK aC.length c0_2]) (t:=24) ?hr ?_;(case hd=> rfl);(case hg=> rfl);(case hr=> (go_simp;done));intro aX hg w4 hbox hb;have aA:=am (hbox);have bI:=am (gsz hg HB.out);have bJ:=am (gsz hg HB.out);replace HB:=am (below_step (HB.out) hb);clear hb hbox hg;obtain⟨aY,aZ,a3⟩:=bc3 aA.out;obtain⟨a4,a5,a6⟩:=bf3 aA.out)|((with_reducible refine gate_callee (f:=45) rfl ?_);refine goesL_ (some 6) rfl rfl Tryz.func45 (by kernel_rfl) rfl #[.agg #[i6 aD,i6 aE,.slice aK aC.length c0_2]] rfl (by(try simp only[l_m,l_c,l_n]);rfl) ?_;(with_reducible refine(ententeref03_Check.calls k aD aE _ _ aC aN _ ?side1 ?side2 A2.out).mono ?_);(case side1=> exact(Kd.C_below aQ.out HB.out));(case side2=> exact aW.out);rintro e w6 ⟨rfl,hb⟩;refine⟨_,rfl,?_⟩;replace aA:=am (blk_below aA.out hb);replace HB:=am (below_step (HB.out) hb);clear hb;obtain⟨a7,a8,a9⟩:=bc3 aA.out;obtain⟨bA,bB,bC⟩:=bf3 aA.out)|((with_reducible refine gate_dst (N:=10) rfl ?_);refine Kd.R_lit (Kd.int .i64) _ 3 ?hg (N:=10) ?hd (xs:=([aD]:List Int)) (inner:=[i6 aD]) (ok:=fun _=> True) (okp:=fun _=> True) ?hr ?hp (fun _ hk=> hk) trivial (Below.refl _ _) (Nat.le_refl _) (by simp) ?_;(case hd=> rfl);(case hg=> rfl);(case hr=> (go_simp;done));(case hp=> exact(Reps.one (show Kd.M (Kd.int .i64) _ _ _ aD [i6 aD]from rfl) (Reps.none _ _)));intro v335 w8 ho9 hb hg_ hnew_;clear hg_ hnew_;(rw[← Ny334.out]at ho9);have bK:=am (Kd.R_lower ho9 (below_size (HB.out)));replace aA:=am (blk_below aA.out hb);replace HB:=am (below_step (HB.out) hb);clear hb ho9))
  go_loopg [3,4] k (fun kq v3 v4 w'=> ∃ (aM:List Int) (aG:Int),v4=i6 aG∧Aside0 (ententeref03_Path.l0 kq aM aG aD aE aC=some r)∧Aside0 (kq≤k)∧Aside0 (Kd.R (Kd.int .i64) 3 w' w.heap.size (fun _=> True) v3 aM)∧Aside0 (w'.heap[aX]?=some (.cells #[i6 aD,i6 aE,(.slice aK aC.length c0_2)] 24 (0,0)))∧Aside0 (Below w.heap.size w w'))
  case atStart=> exact⟨(bH),(0),(by rfl),H',⟨Nat.le_refl _⟩,⟨by exact bK.out⟩,⟨by exact aA.out⟩,⟨HB.out⟩⟩
  case round=>
   clear H'
   clear bF bG aY aZ a3 a7 a8 a9 a4 a5 a6 bA bB bC
   obtain⟨aM,aG,rfl,HA,b9,HO_3,aA,HB⟩:=hrel
   cases gk with
   |zero=> exact absurd HA.out (by simp[ententeref03_Path.l0])
   |succ k1=>
    have H:=HA.out
    clear HA
    simp only[ententeref03_Path.l0]at H
    by_cases c10:aG< (aC.length:Int)
    ·rw[if_pos c10]at H
     have bL:=decide_eq_true c10
     clear c10
     by_cases bO:0≤aG
     ·rw[if_pos bO]at H
      have cA:=decide_eq_true bO
      clear bO
      by_cases bP:aM.length< 17592186044416
      ·rw[if_pos bP]at H
       have LMc12:=am bP
       clear bP
       obtain⟨bM,hy338⟩:∃ y_:List Int,y_=(aM++[(rd_T46 aC aG).f1]):=⟨_,rfl⟩
       replace H:(ententeref03_Path.l0 k1 bM (wrap64 (aG+1)) aD aE aC)=some r:=by(rw[hy338];with_reducible exact H)
       have Ny338:=am hy338
       clear hy338
       have H':=am H
       clear H
       obtain⟨bQ,bR,bS⟩:=bc3 aA.out
       obtain⟨bT,bU,bV⟩:=bf3 aA.out
       have bD:0≤(aG:Int):=of_decide_eq_true (by(with_reducible assumption))
       have bE:aG< (aC.length:Int):=of_decide_eq_true (by(with_reducible assumption))
       obtain⟨cB,e337,aI,aJ⟩:=at_T46 aQ.out aG bD bE
       cases e337
       try replace aI:=(HB.out.cell (World.block_lt_of_cell? w _ aI)).trans aI
       try replace aJ:=(HB.out.cell (World.block_lt_of_cell? w _ aJ)).trans aJ
       replace bD:=eq_true bD
       replace bE:=eq_true bE
       go_wp2_with (first|((with_reducible refine gate_builtin (b:=.append) (xs:=#[.tmp 18,.tmp 25]) rfl ?_);at_builtin;refine Kd.R_append (Kd.int .i64) (w0:=w) w.heap.size rfl (.tmp 18) (.tmp 25) 54 3 (i6 0) 8 rfl Tryz.underlying54 info3 rfl (by decide) (by omega) u3 aM ((rd_T46 aC aG).f1) [i6 ((rd_T46 aC aG).f1)] (fun _=> True) (fun _=> False) rfl rfl ?aP (fun _ hk=> hk.elim) ?aF ?aO ?aB ?aS ?aL ?_;(case aP=> exact rfl);(case aB=> exact(HB.out));(case aF=> exact(fun _ _=> trivial));(case aO=> exact(by exact HO_3.out));(case aS=> exact(below_size (HB.out)));(case aL=> have:=LMc12.out;omega);intro v339 cC ho hb hg hat;rw[← Ny338.out]at ho;replace aA:=am (blk_grown aA.out hg (Kd.R_ne HO_3.out aA.out (by decide)));replace HB:=am (hb);have bN:=am (ho);clear HO_3;clear ho hb hg hat))
       go_roundg k1
       case measure=> have:=b9.out;omega
       case rel=> exact⟨(bM),(wrap64 (aG+1)),(by rfl),H',⟨by have:=b9.out;omega⟩,⟨by exact bN.out⟩,⟨by exact aA.out⟩,⟨HB.out⟩⟩
      ·rw[if_neg bP]at H
       exact absurd H (by simp)
     ·rw[if_neg bO]at H
      exact absurd H (by simp)
    ·rw[if_neg c10]at H
     have bL:=decide_eq_false c10
     clear c10
     obtain rfl:=Option.some.inj H
     obtain⟨bW,bX,bY⟩:=bc3 aA.out
     obtain⟨bZ,b0,b1⟩:=bf3 aA.out
     go_wp2
     go_ret
     exact⟨_,by rfl,by exact HO_3.out,HB.out⟩
 ·rw[if_neg c3]at H
  have bF:=beq_eq_false_iff_ne.mpr c3
  have bG:=bne_iff_ne.mpr c3
  obtain rfl:=Option.some.inj H
  go_enter Tryz.func50,Tryz.ntmps50
  go_wp2_with (first|((with_reducible refine gate_dst (N:=1) rfl ?_);refine box_event ?hg (N:=1) ?hd (cs:=#[i6 aD,i6 aE,.slice aK aC.length c0_2]) (t:=24) ?hr ?_;(case hd=> rfl);(case hg=> rfl);(case hr=> (go_simp;done));intro aX hg cD hbox hb;have aA:=am (hbox);have bI:=am (gsz hg HB.out);have bJ:=am (gsz hg HB.out);replace HB:=am (below_step (HB.out) hb);clear hb hbox hg;obtain⟨b2,b3,b4⟩:=bc3 aA.out;obtain⟨b5,b6,b7⟩:=bf3 aA.out)|((with_reducible refine gate_callee (f:=45) rfl ?_);refine goesL_ (some 6) rfl rfl Tryz.func45 (by kernel_rfl) rfl #[.agg #[i6 aD,i6 aE,.slice aK aC.length c0_2]] rfl (by(try simp only[l_m,l_c,l_n]);rfl) ?_;(with_reducible refine(ententeref03_Check.calls k aD aE _ _ aC aN _ ?side1 ?side2 A2.out).mono ?_);(case side1=> exact(Kd.C_below aQ.out HB.out));(case side2=> exact aW.out);rintro e cE ⟨rfl,hb⟩;refine⟨_,rfl,?_⟩;replace aA:=am (blk_below aA.out hb);replace HB:=am (below_step (HB.out) hb);clear hb))
  go_ret
  exact⟨_,by rfl,by exact Kd.R_nil _ _ _ _ _,HB.out⟩

/-! ### ententeref13_Ends: function 28 -/
def ententeref13_Ends.f (k:Nat) (aC:Int) (aE:Int) (aF:Int) (aD:List (S46)) (aH:ByteArray) (aI:Int):Option (Int×Int):=(ententeref13_Check.f k aC aE aF aD aH aI).bind fun aP=> (if aP=0 then((ententeref03_Path.f k aE aF aD).bind fun aA=> (if 0≤(wrap64 ((aA.length:Int) - 2))then(if(wrap64 ((aA.length:Int) - 2))< (aA.length:Int)then(if 0≤(wrap64 ((aA.length:Int) - 1))then(if(wrap64 ((aA.length:Int) - 1))< (aA.length:Int)then(if aC≥5 then(some (rd aA (wrap64 ((aA.length:Int) - 1)),rd aA (wrap64 ((aA.length:Int) - 2))))else(some (rd aA (wrap64 ((aA.length:Int) - 2)),rd aA (wrap64 ((aA.length:Int) - 1)))))else(none))else(none))else(none))else(none)))else(some ((-1),(-1))))
set_option maxHeartbeats 8000000 in
set_option maxRecDepth 100000 in
theorem ententeref13_Ends.calls (k:Nat) (aC:Int) (aE:Int) (aF:Int) (aQ:Option Addr) (c0_3:Nat) (aD:List (S46)) (aH:ByteArray) (aI:Int) (r1:Int) (r2:Int) (w:World) (aV:Kd.C k46 w aQ aD.length aD) (aW:aD.length≤c0_3) (h:ententeref13_Ends.f k aC aE aF aD aH aI=some (r1,r2)) :
  Calls Tryz.prog 28 #[.agg #[i6 aC,i6 aE,i6 aF,.slice aQ aD.length c0_3,.string aH,i6 aI]] w fun e w'=> e=.returned (.tuple #[i6 r1,i6 r2])∧Below w.heap.size w w':=by
 have hu26:=Tryz.underlying26
 have hu24:=Tryz.underlying24
 have aJ:=am aV
 have aK:=am aW
 clear aV aW
 have HB:=am (Below.refl w.heap.size w)
 unfold ententeref13_Ends.f at h
 have H:=h
 clear h
 obtain⟨aP,dU,H⟩:=Option.bind_eq_some_iff.mp H
 try dsimp only at H
 have A2:=am dU
 clear dU
 by_cases c3:aP=0
 ·rw[if_pos c3]at H
  have dS:=beq_iff_eq.mpr c3
  have dT:=bne_eq_false_iff_eq.mpr c3
  clear c3
  obtain⟨aA,dV,H⟩:=Option.bind_eq_some_iff.mp H
  try dsimp only at H
  have A4:=am dV
  clear dV
  obtain⟨ji5,hji5⟩:∃ j_:Int,(wrap64 ((aA.length:Int) - 2))=j_:=⟨_,rfl⟩
  replace H:(if 0≤(ji5)then(if(ji5)< (aA.length:Int)then(if 0≤(wrap64 ((aA.length:Int) - 1))then(if(wrap64 ((aA.length:Int) - 1))< (aA.length:Int)then(if aC≥5 then(some (rd aA (wrap64 ((aA.length:Int) - 1)),rd aA (ji5)))else(some (rd aA (ji5),rd aA (wrap64 ((aA.length:Int) - 1)))))else(none))else(none))else(none))else(none))=some (r1,r2):=by(rw[hji5]at H;exact H)
  (try rw[hji5]at A2)
  (try rw[hji5]at A4)
  have hji5w:(IntKind.i64.wrap ((aA.length:Int) - 2))=ji5:=(i64_w _).trans hji5
  by_cases c6:0≤(ji5)
  ·rw[if_pos c6]at H
   have dX:=decide_eq_true c6
   clear c6
   by_cases c7:(ji5)< (aA.length:Int)
   ·rw[if_pos c7]at H
    have dY:=decide_eq_true c7
    clear c7
    obtain⟨ji8,hji8⟩:∃ j_:Int,(wrap64 ((aA.length:Int) - 1))=j_:=⟨_,rfl⟩
    replace H:(if 0≤(ji8)then(if(ji8)< (aA.length:Int)then(if aC≥5 then(some (rd aA (ji8),rd aA (ji5)))else(some (rd aA (ji5),rd aA (ji8))))else(none))else(none))=some (r1,r2):=by(rw[hji8]at H;exact H)
    (try rw[hji8]at A2)
    (try rw[hji8]at A4)
    have hji8w:(IntKind.i64.wrap ((aA.length:Int) - 1))=ji8:=(i64_w _).trans hji8
    by_cases c9:0≤(ji8)
    ·rw[if_pos c9]at H
     have dZ:=decide_eq_true c9
     clear c9
     by_cases c10:(ji8)< (aA.length:Int)
     ·rw[if_pos c10]at H
      have dW:=decide_eq_true c10
      clear c10
      by_cases a6:aC≥5
      ·rw[if_pos a6]at H
       have a7:decide (5≤aC)=true:=decide_eq_true a6
       clear a6
       simp only[Option.some.injEq,Prod.mk.injEq]at H
       obtain⟨rfl,rfl⟩:=H
       go_enter Tryz.func28,Tryz.ntmps28
       go_wp2_with (first|((with_reducible refine gate_dst (N:=1) rfl ?_);refine box_event ?hg (N:=1) ?hd (cs:=#[i6 aC,i6 aE,i6 aF,.slice aQ aD.length c0_3,.string aH,i6 aI]) (t:=26) ?hr ?_;(case hd=> rfl);(case hg=> rfl);(case hr=> (go_simp;done));intro aX hg d4 hbox hb;have aB:=am (hbox);have aY:=am (gsz hg HB.out);have aZ:=am (gsz hg HB.out);replace HB:=am (below_step (HB.out) hb);clear hb hbox hg;obtain⟨a8,a9,bA,bB,bC,bD⟩:=bc6 aB.out;obtain⟨bE,bF,bG,bH,bI,bJ⟩:=bf6 aB.out)|(go_at_call 49;(with_reducible refine(ententeref13_Check.calls k aC aE aF _ _ aD aH aI aP _ ?side1 ?side2 A2.out).mono ?_);(case side1=> exact(Kd.C_below aJ.out HB.out));(case side2=> exact aK.out);rintro e d5 ⟨rfl,hb⟩;replace aB:=am (blk_below aB.out hb);replace HB:=am (below_step (HB.out) hb);clear hb;obtain⟨bK,bL,bM,bN,bO,bP⟩:=bc6 aB.out;obtain⟨bQ,bR,bS,bT,bU,bV⟩:=bf6 aB.out)|(go_at_call 50;(with_reducible refine(ententeref03_Path.calls k aE aF _ _ aD aA _ ?side1 ?side2 A4.out).mono ?_);(case side1=> exact(Kd.C_below aJ.out HB.out));(case side2=> exact aK.out);rintro e d6 ⟨v344,rfl,ho0,hb⟩;have aG:=am (Kd.R_lower ho0 (below_size (HB.out)));replace aB:=am (blk_below aB.out hb);replace HB:=am (below_step (HB.out) hb);clear hb ho0;obtain⟨d0,d1,eo17⟩:=Kd.R_slice aG.out;subst eo17;have aL:0≤((ji5):Int):=of_decide_eq_true (by(with_reducible assumption));have aM:(ji5)< (aA.length:Int):=of_decide_eq_true (by(with_reducible assumption));obtain⟨aR,e346,aT⟩:=Kd.at_int (Kd.R_reads' aG.out).2.2 (ji5) aL aM;cases e346;replace aL:=eq_true aL;replace aM:=eq_true aM;have aN:0≤((ji8):Int):=of_decide_eq_true (by(with_reducible assumption));have aO:(ji8)< (aA.length:Int):=of_decide_eq_true (by(with_reducible assumption));obtain⟨aS,e347,aU⟩:=Kd.at_int (Kd.R_reads' aG.out).2.2 (ji8) aN aO;obtain rfl:aR=aS:=(by injection e347);replace aN:=eq_true aN;replace aO:=eq_true aO;obtain⟨bW,bX,bY,bZ,b0,b1⟩:=bc6 aB.out;obtain⟨b2,b3,b4,b5,b6,b7⟩:=bf6 aB.out))
       repeat(go_quiet (fail);try go_wp2_with (fail))
       go_ret2
       exact⟨by first|rfl|(simp[errW_none,errW_some]<;> rfl)|(simp only[← hji5,← hji8];first|rfl|(simp[errW_none,errW_some]<;> rfl))|(simp[*,errW_none,errW_some]<;> rfl),pw_below_drewN HB.out _⟩
      ·rw[if_neg a6]at H
       have a7:decide (5≤aC)=false:=decide_eq_false a6
       clear a6
       simp only[Option.some.injEq,Prod.mk.injEq]at H
       obtain⟨rfl,rfl⟩:=H
       go_enter Tryz.func28,Tryz.ntmps28
       go_wp2_with (first|((with_reducible refine gate_dst (N:=1) rfl ?_);refine box_event ?hg (N:=1) ?hd (cs:=#[i6 aC,i6 aE,i6 aF,.slice aQ aD.length c0_3,.string aH,i6 aI]) (t:=26) ?hr ?_;(case hd=> rfl);(case hg=> rfl);(case hr=> (go_simp;done));intro aX hg d7 hbox hb;have aB:=am (hbox);have aY:=am (gsz hg HB.out);have aZ:=am (gsz hg HB.out);replace HB:=am (below_step (HB.out) hb);clear hb hbox hg;obtain⟨b8,b9,cA,cB,cC,cD⟩:=bc6 aB.out;obtain⟨cE,cF,cG,cH,cI,cJ⟩:=bf6 aB.out)|(go_at_call 49;(with_reducible refine(ententeref13_Check.calls k aC aE aF _ _ aD aH aI aP _ ?side1 ?side2 A2.out).mono ?_);(case side1=> exact(Kd.C_below aJ.out HB.out));(case side2=> exact aK.out);rintro e d8 ⟨rfl,hb⟩;replace aB:=am (blk_below aB.out hb);replace HB:=am (below_step (HB.out) hb);clear hb;obtain⟨cK,cL,cM,cN,cO,cP⟩:=bc6 aB.out;obtain⟨cQ,cR,cS,cT,cU,cV⟩:=bf6 aB.out)|(go_at_call 50;(with_reducible refine(ententeref03_Path.calls k aE aF _ _ aD aA _ ?side1 ?side2 A4.out).mono ?_);(case side1=> exact(Kd.C_below aJ.out HB.out));(case side2=> exact aK.out);rintro e d9 ⟨v344,rfl,ho0,hb⟩;have aG:=am (Kd.R_lower ho0 (below_size (HB.out)));replace aB:=am (blk_below aB.out hb);replace HB:=am (below_step (HB.out) hb);clear hb ho0;obtain⟨d2,d3,eo24⟩:=Kd.R_slice aG.out;subst eo24;have aL:0≤((ji5):Int):=of_decide_eq_true (by(with_reducible assumption));have aM:(ji5)< (aA.length:Int):=of_decide_eq_true (by(with_reducible assumption));obtain⟨aR,e346,aT⟩:=Kd.at_int (Kd.R_reads' aG.out).2.2 (ji5) aL aM;cases e346;replace aL:=eq_true aL;replace aM:=eq_true aM;have aN:0≤((ji8):Int):=of_decide_eq_true (by(with_reducible assumption));have aO:(ji8)< (aA.length:Int):=of_decide_eq_true (by(with_reducible assumption));obtain⟨aS,e347,aU⟩:=Kd.at_int (Kd.R_reads' aG.out).2.2 (ji8) aN aO;obtain rfl:aR=aS:=(by injection e347);replace aN:=eq_true aN;replace aO:=eq_true aO;obtain⟨cW,cX,cY,cZ,c0,c1⟩:=bc6 aB.out;obtain⟨dA,dB,dC,dD,dE,dF⟩:=bf6 aB.out))
       repeat(go_quiet (fail);try go_wp2_with (fail))
       go_ret2
       exact⟨by first|rfl|(simp[errW_none,errW_some]<;> rfl)|(simp only[← hji5,← hji8];first|rfl|(simp[errW_none,errW_some]<;> rfl))|(simp[*,errW_none,errW_some]<;> rfl),pw_below_drewN HB.out _⟩
     ·rw[if_neg c10]at H
      exact absurd H (by simp)
    ·rw[if_neg c9]at H
     exact absurd H (by simp)
   ·rw[if_neg c7]at H
    exact absurd H (by simp)
  ·rw[if_neg c6]at H
   exact absurd H (by simp)
 ·rw[if_neg c3]at H
  have dS:=beq_eq_false_iff_ne.mpr c3
  have dT:=bne_iff_ne.mpr c3
  simp only[Option.some.injEq,Prod.mk.injEq]at H
  obtain⟨rfl,rfl⟩:=H
  go_enter Tryz.func28,Tryz.ntmps28
  go_wp2_with (first|((with_reducible refine gate_dst (N:=1) rfl ?_);refine box_event ?hg (N:=1) ?hd (cs:=#[i6 aC,i6 aE,i6 aF,.slice aQ aD.length c0_3,.string aH,i6 aI]) (t:=26) ?hr ?_;(case hd=> rfl);(case hg=> rfl);(case hr=> (go_simp;done));intro aX hg eA hbox hb;have aB:=am (hbox);have aY:=am (gsz hg HB.out);have aZ:=am (gsz hg HB.out);replace HB:=am (below_step (HB.out) hb);clear hb hbox hg;obtain⟨dG,dH,dI,dJ,dK,dL⟩:=bc6 aB.out;obtain⟨dM,dN,dO,dP,dQ,dR⟩:=bf6 aB.out)|(go_at_call 49;(with_reducible refine(ententeref13_Check.calls k aC aE aF _ _ aD aH aI aP _ ?side1 ?side2 A2.out).mono ?_);(case side1=> exact(Kd.C_below aJ.out HB.out));(case side2=> exact aK.out);rintro e eB ⟨rfl,hb⟩;replace aB:=am (blk_below aB.out hb);replace HB:=am (below_step (HB.out) hb);clear hb))
  repeat(go_quiet (fail);try go_wp2_with (fail))
  go_ret2
  exact⟨by rfl,HB.out⟩

/-! ### ententeref13_Frame: function 10 -/
mutual
def ententeref13_Frame.j0:Nat→Bool→Int→Int→Int→Int→Int→Int→Int→Int→Int→List (S46)→ByteArray→Int→Option (Int)
 |0,_,_,_,_,_,_,_,_,_,_,_,_,_=> none
 |k+1,xN,bB,bC,bE,aQ,aR,aS,aT,aU,aV,aW,aX,aY=> if xN=true then(some 130)else(if aQ< 0 then(ententeref13_Frame.j1 k true bB bC bE aQ aR aS aT aU aV aW aX aY)else(if aQ> 1000000000 then(ententeref13_Frame.j1 k true bB bC bE aQ aR aS aT aU aV aW aX aY)else(if aR< 0 then(ententeref13_Frame.j1 k true bB bC bE aQ aR aS aT aU aV aW aX aY)else(if aR> 1000000000 then(ententeref13_Frame.j1 k true bB bC bE aQ aR aS aT aU aV aW aX aY)else(if aS< 0 then(ententeref13_Frame.j1 k true bB bC bE aQ aR aS aT aU aV aW aX aY)else(ententeref13_Frame.j1 k (decide (aS> 1000000000)) bB bC bE aQ aR aS aT aU aV aW aX aY))))))
def ententeref13_Frame.j1:Nat→Bool→Int→Int→Int→Int→Int→Int→Int→Int→Int→List (S46)→ByteArray→Int→Option (Int)
 |0,_,_,_,_,_,_,_,_,_,_,_,_,_=> none
 |k+1,xO,bB,bC,bE,aQ,aR,aS,aT,aU,aV,aW,aX,aY=> if xO=true then(some 130)else(if aQ=0 then(if aT=0 then(if aX.toList=([]:List UInt8)then(if aY=0 then(if aU=0 then(if aV=0 then(ententeref13_Frame.j2 k ((aW.length:Int) !=0))else(ententeref13_Frame.j2 k true))else(ententeref13_Frame.j2 k true))else(ententeref13_Frame.j2 k true))else(ententeref13_Frame.j2 k true))else(ententeref13_Frame.j2 k true))else((ententeref13_Ends.f k aT aU aV aW aX aY).bind fun bJ=> (if bJ.1=bB then(if bJ.2=bC then(some 0)else(some 130))else(some 130))))
def ententeref13_Frame.j2:Nat→Bool→Option (Int)
 |0,_=> none
 |k+1,u7=> if u7=true then(some 130)else(some 0)
end
def ententeref13_Frame.f (k:Nat) (aK:Int) (aL:Int) (aO:Int) (aM:Int) (aN:Int) (aP:Int) (aH:Int) (aI:Int) (aJ:Int) (aG:List (S46)) (aC:ByteArray) (aD:Int):Option (Int):=if aK< 0 then(ententeref13_Frame.j0 k true aK aL aO aM aN aP aH aI aJ aG aC aD)else(if aK> 15 then(ententeref13_Frame.j0 k true aK aL aO aM aN aP aH aI aJ aG aC aD)else(if aL< 0 then(ententeref13_Frame.j0 k true aK aL aO aM aN aP aH aI aJ aG aC aD)else(if aL> 15 then(ententeref13_Frame.j0 k true aK aL aO aM aN aP aH aI aJ aG aC aD)else(if aK=aL then(ententeref13_Frame.j0 k true aK aL aO aM aN aP aH aI aJ aG aC aD)else(if aO< 1 then(ententeref13_Frame.j0 k true aK aL aO aM aN aP aH aI aJ aG aC aD)else(ententeref13_Frame.j0 k (decide (aO> 1000000000)) aK aL aO aM aN aP aH aI aJ aG aC aD))))))
set_option maxHeartbeats 8000000 in
set_option maxRecDepth 100000 in
theorem ententeref13_Frame.calls (k:Nat) (aK:Int) (aL:Int) (aO:Int) (aM:Int) (aN:Int) (aP:Int) (aH:Int) (aI:Int) (aJ:Int) (bF:Option Addr) (c0_9:Nat) (aG:List (S46)) (aC:ByteArray) (aD:Int) (r:Int) (w:World) (dP:Kd.C k46 w bF aG.length aG) (dQ:aG.length≤c0_9) (h:ententeref13_Frame.f k aK aL aO aM aN aP aH aI aJ aG aC aD=some r) :
  Calls Tryz.prog 10 #[.agg #[i6 aK,i6 aL,i6 aO,i6 aM,i6 aN,i6 aP,i6 aH,i6 aI,i6 aJ,.slice bF aG.length c0_9,.string aC,i6 aD]] w fun e w'=> e=.returned (i6 r)∧Below w.heap.size w w':=by
 have hu28:=Tryz.underlying28
 have hu26:=Tryz.underlying26
 have bN:=am dP
 have bO:=am dQ
 clear dP dQ
 have HB:=am (Below.refl w.heap.size w)
 unfold ententeref13_Frame.f at h
 have H:=h
 clear h
 have HC2:=am H
 clear H
 go_enter Tryz.func10,Tryz.ntmps10
 go_upto_region 1 with(first|((with_reducible refine gate_dst (N:=1) rfl ?_);(try(refine gate_guard (by rfl) ?_;dsimp only));refine box_event ?hg (N:=1) ?hd (cs:=#[i6 aK,i6 aL,i6 aO,i6 aM,i6 aN,i6 aP,i6 aH,i6 aI,i6 aJ,.slice bF aG.length c0_9,.string aC,i6 aD]) (t:=28) ?hr ?_;(case hd=> rfl);(case hg=> rfl);(case hr=> (go_simp;done));intro bD hg w3 hbox hb;have aA:=am (hbox);have w0:=am (gsz hg HB.out);have w1:=am (gsz hg HB.out);replace HB:=am (below_step (HB.out) hb);clear hb hbox hg))
 (try simp only[Act.put,l_a,l_z,l_s])
 go_cut [40] (fun v40 wc=> ∃ (kq:Nat) (bK:Bool),v40=.bool bK∧Aside0 (ententeref13_Frame.j0 kq bK aK aL aO aM aN aP aH aI aJ aG aC aD=some r)∧Aside0 (kq≤k)∧Aside0 (wc.heap[bD]?=some (.cells #[i6 aK,i6 aL,i6 aO,i6 aM,i6 aN,i6 aP,i6 aH,i6 aI,i6 aJ,(.slice bF aG.length c0_9),.string aC,i6 aD] 28 (0,0)))∧Aside0 (Below w.heap.size w wc))
 case first=>
  have H:=HC2.out
  clear HC2
  by_cases c4:aK< 0
  ·rw[if_pos c4]at H
   have u8:=decide_eq_true c4
   clear c4
   (skip)
   have H':=am H
   clear H
   obtain⟨u9,vA,vB,vC,vD,vE,vF,vG,vH,vI,g4,g5⟩:=bc12 aA.out
   obtain⟨vJ,vK,vL,vM,vN,vO,vP,vQ,vR,vS,g6,g7⟩:=bf12 aA.out
   go_wp2
   go_meet
   case rel=> exact⟨_,(true),(by rfl),H',⟨by omega⟩,⟨by exact aA.out⟩,⟨HB.out⟩⟩
  ·rw[if_neg c4]at H
   have u8:=decide_eq_false c4
   clear c4
   (skip)
   by_cases c6:aK> 15
   ·rw[if_pos c6]at H
    have vT:decide (15< aK)=true:=decide_eq_true c6
    clear c6
    have H':=am H
    clear H
    obtain⟨vU,vV,vW,vX,vY,vZ,v0,v1,v2,v3,g8,g9⟩:=bc12 aA.out
    obtain⟨v4,v5,v6,v7,v8,v9,wA,wB,wC,wD,hA,hB⟩:=bf12 aA.out
    go_wp2
    go_meet
    case rel=> exact⟨_,(true),(by rfl),H',⟨by omega⟩,⟨by exact aA.out⟩,⟨HB.out⟩⟩
   ·rw[if_neg c6]at H
    have vT:decide (15< aK)=false:=decide_eq_false c6
    clear c6
    by_cases c8:aL< 0
    ·rw[if_pos c8]at H
     have wE:=decide_eq_true c8
     clear c8
     have H':=am H
     clear H
     obtain⟨wF,wG,wH,wI,wJ,wK,wL,wM,wN,wO,hC,hD⟩:=bc12 aA.out
     obtain⟨wP,wQ,wR,wS,wT,wU,wV,wW,wX,wY,hE,hF⟩:=bf12 aA.out
     go_wp2
     go_meet
     case rel=> exact⟨_,(true),(by rfl),H',⟨by omega⟩,⟨by exact aA.out⟩,⟨HB.out⟩⟩
    ·rw[if_neg c8]at H
     have wE:=decide_eq_false c8
     clear c8
     by_cases c10:aL> 15
     ·rw[if_pos c10]at H
      have eB:decide (15< aL)=true:=decide_eq_true c10
      clear c10
      have H':=am H
      clear H
      obtain⟨hG,hH,hI,hJ,hK,hL,hM,hN,hO,hP,eC,eD⟩:=bc12 aA.out
      obtain⟨hQ,hR,hS,hT,hU,hV,hW,hX,hY,hZ,eE,eF⟩:=bf12 aA.out
      go_wp2
      go_meet
      case rel=> exact⟨_,(true),(by rfl),H',⟨by omega⟩,⟨by exact aA.out⟩,⟨HB.out⟩⟩
     ·rw[if_neg c10]at H
      have eB:decide (15< aL)=false:=decide_eq_false c10
      clear c10
      by_cases dW:aK=aL
      ·rw[if_pos dW]at H
       have eG:=beq_iff_eq.mpr dW
       have eH:=bne_eq_false_iff_eq.mpr dW
       clear dW
       have H':=am H
       clear H
       obtain⟨h0,h1,h2,h3,h4,h5,h6,h7,h8,h9,eI,eJ⟩:=bc12 aA.out
       obtain⟨iA,iB,iC,iD,iE,iF,iG,iH,iI,iJ,eK,eL⟩:=bf12 aA.out
       go_wp2
       go_meet
       case rel=> exact⟨_,(true),(by rfl),H',⟨by omega⟩,⟨by exact aA.out⟩,⟨HB.out⟩⟩
      ·rw[if_neg dW]at H
       have eG:=beq_eq_false_iff_ne.mpr dW
       have eH:=bne_iff_ne.mpr dW
       by_cases d5:aO< 1
       ·rw[if_pos d5]at H
        have eM:=decide_eq_true d5
        clear d5
        have H':=am H
        clear H
        obtain⟨iK,iL,iM,iN,iO,iP,iQ,iR,iS,iT,eN,eO⟩:=bc12 aA.out
        obtain⟨iU,iV,iW,iX,iY,iZ,i0,i1,i2,i3,eP,eQ⟩:=bf12 aA.out
        go_wp2
        go_meet
        case rel=> exact⟨_,(true),(by rfl),H',⟨by omega⟩,⟨by exact aA.out⟩,⟨HB.out⟩⟩
       ·rw[if_neg d5]at H
        have eM:=decide_eq_false d5
        clear d5
        have H':=am H
        clear H
        obtain⟨i4,i5,i7,i8,i9,jA,jB,jC,jD,jE,eR,eS⟩:=bc12 aA.out
        obtain⟨jF,jG,jH,jI,jJ,jK,jL,jM,jN,jO,eT,eU⟩:=bf12 aA.out
        go_wp2
        go_meet
        case rel=> exact⟨_,(decide (aO> 1000000000)),(by rfl),H',⟨by omega⟩,⟨by exact aA.out⟩,⟨HB.out⟩⟩
 case rest=>
  clear HC2
  obtain⟨kq,bK,rfl,HA,bM,aA,HB⟩:=hcut
  cases kq with
  |zero=> exact absurd HA.out (by simp[ententeref13_Frame.j0])
  |succ dX=>
   have H:=HA.out
   clear HA
   simp only[ententeref13_Frame.j0]at H
   by_cases jP:bK=true
   ·subst jP
    have H1:(some 130)=some r:=by rw[if_pos rfl]at H;exact H
    clear H
    have H:=H1
    clear H1
    obtain rfl:=Option.some.inj H
    go_wp2
    go_ret
    exact⟨by rfl,HB.out⟩
   ·replace jP:=Bool.eq_false_iff.mpr jP
    subst jP
    have H1:(if aM< 0 then(ententeref13_Frame.j1 dX true aK aL aO aM aN aP aH aI aJ aG aC aD)else(if aM> 1000000000 then(ententeref13_Frame.j1 dX true aK aL aO aM aN aP aH aI aJ aG aC aD)else(if aN< 0 then(ententeref13_Frame.j1 dX true aK aL aO aM aN aP aH aI aJ aG aC aD)else(if aN> 1000000000 then(ententeref13_Frame.j1 dX true aK aL aO aM aN aP aH aI aJ aG aC aD)else(if aP< 0 then(ententeref13_Frame.j1 dX true aK aL aO aM aN aP aH aI aJ aG aC aD)else(ententeref13_Frame.j1 dX (decide (aP> 1000000000)) aK aL aO aM aN aP aH aI aJ aG aC aD))))))=some r:=by rw[if_neg (show ¬ (false=true)by decide)]at H;exact H
    clear H
    have H:=H1
    clear H1
    have HC18:=am H
    clear H
    go_upto_region 3 with(fail)
    go_cut [68] (fun v68 wc=> ∃ (kq:Nat) (bI:Bool),v68=.bool bI∧Aside0 (ententeref13_Frame.j1 kq bI aK aL aO aM aN aP aH aI aJ aG aC aD=some r)∧Aside0 (kq≤dX)∧Aside0 (wc.heap[bD]?=some (.cells #[i6 aK,i6 aL,i6 aO,i6 aM,i6 aN,i6 aP,i6 aH,i6 aI,i6 aJ,(.slice bF aG.length c0_9),.string aC,i6 aD] 28 (0,0)))∧Aside0 (Below w.heap.size w wc))
    case first=>
     have H:=HC18.out
     clear HC18
     by_cases d6:aM< 0
     ·rw[if_pos d6]at H
      have eV:=decide_eq_true d6
      clear d6
      (skip)
      have H':=am H
      clear H
      obtain⟨jQ,jR,jS,jT,jU,jV,jW,jX,jY,jZ,eW,eX⟩:=bc12 aA.out
      obtain⟨j3,j4,j5,j6,j7,j8,j9,kA,kB,kC,eY,eZ⟩:=bf12 aA.out
      go_wp2
      go_meet
      case rel=> exact⟨_,(true),(by rfl),H',⟨by have:=bM.out;omega⟩,⟨by exact aA.out⟩,⟨HB.out⟩⟩
     ·rw[if_neg d6]at H
      have eV:=decide_eq_false d6
      clear d6
      (skip)
      by_cases d7:aM> 1000000000
      ·rw[if_pos d7]at H
       have e0:decide (1000000000< aM)=true:=decide_eq_true d7
       clear d7
       have H':=am H
       clear H
       obtain⟨kD,kE,kF,kG,kH,kI,kJ,kK,kL,kM,e1,e2⟩:=bc12 aA.out
       obtain⟨kN,kO,kP,kQ,kR,kS,kT,kU,kV,kW,e3,e4⟩:=bf12 aA.out
       go_wp2
       go_meet
       case rel=> exact⟨_,(true),(by rfl),H',⟨by have:=bM.out;omega⟩,⟨by exact aA.out⟩,⟨HB.out⟩⟩
      ·rw[if_neg d7]at H
       have e0:decide (1000000000< aM)=false:=decide_eq_false d7
       clear d7
       by_cases d8:aN< 0
       ·rw[if_pos d8]at H
        have e5:=decide_eq_true d8
        clear d8
        have H':=am H
        clear H
        obtain⟨kX,kY,kZ,k0,k1,k2,k3,k4,k5,k6,e6,e7⟩:=bc12 aA.out
        obtain⟨k7,k8,k9,lA,lB,lC,lD,lE,lF,lG,e8,e9⟩:=bf12 aA.out
        go_wp2
        go_meet
        case rel=> exact⟨_,(true),(by rfl),H',⟨by have:=bM.out;omega⟩,⟨by exact aA.out⟩,⟨HB.out⟩⟩
       ·rw[if_neg d8]at H
        have e5:=decide_eq_false d8
        clear d8
        by_cases d9:aN> 1000000000
        ·rw[if_pos d9]at H
         have fA:decide (1000000000< aN)=true:=decide_eq_true d9
         clear d9
         have H':=am H
         clear H
         obtain⟨lH,lI,lJ,lK,lL,lM,lN,lO,lP,lQ,fB,fC⟩:=bc12 aA.out
         obtain⟨lR,lS,lT,lU,lV,lW,lX,lY,lZ,l0,fD,fE⟩:=bf12 aA.out
         go_wp2
         go_meet
         case rel=> exact⟨_,(true),(by rfl),H',⟨by have:=bM.out;omega⟩,⟨by exact aA.out⟩,⟨HB.out⟩⟩
        ·rw[if_neg d9]at H
         have fA:decide (1000000000< aN)=false:=decide_eq_false d9
         clear d9
         by_cases eA:aP< 0
         ·rw[if_pos eA]at H
          have fF:=decide_eq_true eA
          clear eA
          have H':=am H
          clear H
          obtain⟨l1,l2,l3,l4,l5,l6,l7,l8,l9,mA,fG,fH⟩:=bc12 aA.out
          obtain⟨mB,mC,mD,mE,mF,mG,mH,mI,mJ,mK,fI,fJ⟩:=bf12 aA.out
          go_wp2
          go_meet
          case rel=> exact⟨_,(true),(by rfl),H',⟨by have:=bM.out;omega⟩,⟨by exact aA.out⟩,⟨HB.out⟩⟩
         ·rw[if_neg eA]at H
          have fF:=decide_eq_false eA
          clear eA
          have H':=am H
          clear H
          obtain⟨mL,mM,mN,mO,mP,mQ,mR,mS,mT,mU,fK,fL⟩:=bc12 aA.out
          obtain⟨mV,mW,mX,mY,mZ,m0,m1,m2,m3,m4,fM,fN⟩:=bf12 aA.out
          go_wp2
          go_meet
          case rel=> exact⟨_,(decide (aP> 1000000000)),(by rfl),H',⟨by have:=bM.out;omega⟩,⟨by exact aA.out⟩,⟨HB.out⟩⟩
    case rest=>
     clear HC18
     obtain⟨kq,bI,rfl,HA,bL,aA,HB⟩:=hcut
     cases kq with
     |zero=> exact absurd HA.out (by simp[ententeref13_Frame.j1])
     |succ bH=>
      have H:=HA.out
      clear HA
      simp only[ententeref13_Frame.j1]at H
      by_cases m5:bI=true
      ·subst m5
       have H1:(some 130)=some r:=by rw[if_pos rfl]at H;exact H
       clear H
       have H:=H1
       clear H1
       obtain rfl:=Option.some.inj H
       go_wp2
       go_ret
       exact⟨by rfl,HB.out⟩
      ·replace m5:=Bool.eq_false_iff.mpr m5
       subst m5
       have H1:(if aM=0 then(if aH=0 then(if aC.toList=([]:List UInt8)then(if aD=0 then(if aI=0 then(if aJ=0 then(ententeref13_Frame.j2 bH ((aG.length:Int) !=0))else(ententeref13_Frame.j2 bH true))else(ententeref13_Frame.j2 bH true))else(ententeref13_Frame.j2 bH true))else(ententeref13_Frame.j2 bH true))else(ententeref13_Frame.j2 bH true))else((ententeref13_Ends.f bH aH aI aJ aG aC aD).bind fun bJ=> (if bJ.1=aK then(if bJ.2=aL then(some 0)else(some 130))else(some 130))))=some r:=by rw[if_neg (show ¬ (false=true)by decide)]at H;exact H
       clear H
       have H:=H1
       clear H1
       by_cases dY:aM=0
       ·rw[if_pos dY]at H
        have dR:=beq_iff_eq.mpr dY
        have dS:=bne_eq_false_iff_eq.mpr dY
        clear dY
        have HC32:=am H
        clear H
        obtain⟨bY,bZ,b0,b1,b2,b3,b4,b5,b6,b7,bP,bQ⟩:=bc12 aA.out
        obtain⟨b8,b9,cA,cB,cC,cD,cE,cF,cG,cH,bR,bS⟩:=bf12 aA.out
        go_upto_region 7 with(first|((with_reducible refine gate_dst (N:=3) rfl ?_);(try(refine gate_guard (by rfl) ?_;dsimp only));refine box_event ?hg (N:=3) ?hd (cs:=#[i6 0,i6 0,i6 0,.slice none 0 0,.string (⟨#[]⟩:ByteArray),i6 0]) (t:=26) ?hr ?_;(case hd=> rfl);(case hg=> rfl);(case hr=> (go_simp;done));intro aZ hg xR hbox hb;have aE:=am (hbox);have bT:=am (gsz hg HB.out);have bA:=am (gsz hg HB.out);replace HB:=am (below_step (HB.out) hb);have aB:=am ((by rw[hg];exact Nat.ne_of_lt (blk_lt aA.out):bD≠aZ));have aF:=am ((by rw[hg];exact Nat.ne_of_gt (blk_lt aA.out):aZ≠bD));replace aA:=am (blk_below aA.out hb);clear hb hbox hg;have w2:=aF.out;have w4:=aB.out;obtain⟨cI,cJ,cK,cL,cM,cN⟩:=bc6 aE.out;obtain⟨cO,cP,cQ,cR,cS,cT⟩:=bf6 aE.out;obtain⟨cU,cV,cW,cX,cY,cZ,c0,c1,dA,dB,bU,bV⟩:=bc12 aA.out;obtain⟨dC,dD,dE,dF,dG,dH,dI,dJ,dK,dL,bW,bX⟩:=bf12 aA.out))
        (try simp only[Act.put,l_a,l_z,l_s])
        go_cut [105] (fun v105 wc=> ∃ (kq:Nat) (bG:Bool),v105=.bool bG∧Aside0 (ententeref13_Frame.j2 kq bG=some r)∧Aside0 (kq≤bH)∧Aside0 (wc.heap[bD]?=some (.cells #[i6 aK,i6 aL,i6 aO,i6 aM,i6 aN,i6 aP,i6 aH,i6 aI,i6 aJ,(.slice bF aG.length c0_9),.string aC,i6 aD] 28 (0,0)))∧Aside0 (wc.heap[aZ]?=some (.cells #[i6 aH,i6 aI,i6 aJ,(.slice bF aG.length c0_9),.string aC,i6 aD] 26 (0,0)))∧Aside0 (Below w.heap.size w wc))
        case first=>
         have H:=HC32.out
         clear HC32
         by_cases dZ:aH=0
         ·rw[if_pos dZ]at H
          have fO:=beq_iff_eq.mpr dZ
          have fP:=bne_eq_false_iff_eq.mpr dZ
          clear dZ
          (skip)
          by_cases dM:aC.toList=([]:List UInt8)
          ·rw[if_pos dM]at H
           have fQ:=beq_iff_eq.mpr dM
           have fR:=bne_eq_false_iff_eq.mpr dM
           have fS:aC.toList.isEmpty=true:=by simpa using dM
           clear dM
           by_cases d0:aD=0
           ·rw[if_pos d0]at H
            have fT:=beq_iff_eq.mpr d0
            have fU:=bne_eq_false_iff_eq.mpr d0
            clear d0
            by_cases d1:aI=0
            ·rw[if_pos d1]at H
             have fV:=beq_iff_eq.mpr d1
             have fW:=bne_eq_false_iff_eq.mpr d1
             clear d1
             by_cases d2:aJ=0
             ·rw[if_pos d2]at H
              have fX:=beq_iff_eq.mpr d2
              have fY:=bne_eq_false_iff_eq.mpr d2
              clear d2
              have H':=am H
              clear H
              have w5:=aF.out
              have w6:=aB.out
              obtain⟨m6,m7,m8,m9,nA,nB⟩:=bc6 aE.out
              obtain⟨nC,nD,nE,nF,nG,nH⟩:=bf6 aE.out
              go_wp2
              go_meet
              case rel=> exact⟨_,(((aG.length:Int) !=0)),(by rfl),H',⟨by have:=bM.out;have:=bL.out;omega⟩,⟨by(iterate 6 refine blk_far ?_ aB.out _);exact aA.out⟩,⟨by exact bp (bp (bp (bp (bp (bp aE.out 0) 1) 2) 3) 4) 5⟩,⟨bs6 HB.out bA.out⟩⟩
             ·rw[if_neg d2]at H
              have fX:=beq_eq_false_iff_ne.mpr d2
              have fY:=bne_iff_ne.mpr d2
              have H':=am H
              clear H
              have w7:=aF.out
              have w8:=aB.out
              obtain⟨nI,nJ,nK,nL,nM,nN⟩:=bc6 aE.out
              obtain⟨nO,nP,nQ,nR,nS,nT⟩:=bf6 aE.out
              go_wp2
              go_meet
              case rel=> exact⟨_,(true),(by rfl),H',⟨by have:=bM.out;have:=bL.out;omega⟩,⟨by(iterate 6 refine blk_far ?_ aB.out _);exact aA.out⟩,⟨by exact bp (bp (bp (bp (bp (bp aE.out 0) 1) 2) 3) 4) 5⟩,⟨bs6 HB.out bA.out⟩⟩
            ·rw[if_neg d1]at H
             have fV:=beq_eq_false_iff_ne.mpr d1
             have fW:=bne_iff_ne.mpr d1
             have H':=am H
             clear H
             have w9:=aF.out
             have xA:=aB.out
             obtain⟨nU,nV,nW,nX,nY,nZ⟩:=bc6 aE.out
             obtain⟨n0,n1,n2,n3,n4,n5⟩:=bf6 aE.out
             go_wp2
             go_meet
             case rel=> exact⟨_,(true),(by rfl),H',⟨by have:=bM.out;have:=bL.out;omega⟩,⟨by(iterate 6 refine blk_far ?_ aB.out _);exact aA.out⟩,⟨by exact bp (bp (bp (bp (bp (bp aE.out 0) 1) 2) 3) 4) 5⟩,⟨bs6 HB.out bA.out⟩⟩
           ·rw[if_neg d0]at H
            have fT:=beq_eq_false_iff_ne.mpr d0
            have fU:=bne_iff_ne.mpr d0
            have H':=am H
            clear H
            have xB:=aF.out
            have xC:=aB.out
            obtain⟨n6,n7,n8,n9,oA,oB⟩:=bc6 aE.out
            obtain⟨oC,oD,oE,oF,oG,oH⟩:=bf6 aE.out
            go_wp2
            go_meet
            case rel=> exact⟨_,(true),(by rfl),H',⟨by have:=bM.out;have:=bL.out;omega⟩,⟨by(iterate 6 refine blk_far ?_ aB.out _);exact aA.out⟩,⟨by exact bp (bp (bp (bp (bp (bp aE.out 0) 1) 2) 3) 4) 5⟩,⟨bs6 HB.out bA.out⟩⟩
          ·rw[if_neg dM]at H
           have fQ:=beq_eq_false_iff_ne.mpr dM
           have fR:=bne_iff_ne.mpr dM
           have fS:aC.toList.isEmpty=false:=by simpa using dM
           have H':=am H
           clear H
           have xD:=aF.out
           have xE:=aB.out
           obtain⟨oI,oJ,oK,oL,oM,oN⟩:=bc6 aE.out
           obtain⟨oO,oP,oQ,oR,oS,oT⟩:=bf6 aE.out
           go_wp2
           go_meet
           case rel=> exact⟨_,(true),(by rfl),H',⟨by have:=bM.out;have:=bL.out;omega⟩,⟨by(iterate 6 refine blk_far ?_ aB.out _);exact aA.out⟩,⟨by exact bp (bp (bp (bp (bp (bp aE.out 0) 1) 2) 3) 4) 5⟩,⟨bs6 HB.out bA.out⟩⟩
         ·rw[if_neg dZ]at H
          have fO:=beq_eq_false_iff_ne.mpr dZ
          have fP:=bne_iff_ne.mpr dZ
          (skip)
          have H':=am H
          clear H
          have xF:=aF.out
          have xG:=aB.out
          obtain⟨oU,oV,oW,oX,oY,oZ⟩:=bc6 aE.out
          obtain⟨o0,o1,o2,o3,o4,o5⟩:=bf6 aE.out
          go_wp2
          go_meet
          case rel=> exact⟨_,(true),(by rfl),H',⟨by have:=bM.out;have:=bL.out;omega⟩,⟨by(iterate 6 refine blk_far ?_ aB.out _);exact aA.out⟩,⟨by exact bp (bp (bp (bp (bp (bp aE.out 0) 1) 2) 3) 4) 5⟩,⟨bs6 HB.out bA.out⟩⟩
        case rest=>
         clear HC32 dR dS bY bZ bP bQ b0 b1 b2 b3 b4 b5 b6 b7 cI cJ cK cL cM cN cU cV bU bV cW cX cY cZ c0 c1 dA dB b8 b9 bR bS cA cB cC cD cE cF cG cH cO cP cQ cR cS cT dC dD bW bX dE dF dG dH dI dJ dK dL
         obtain⟨kq,bG,rfl,HA,xP,aA,aE,HB⟩:=hcut
         cases kq with
         |zero=> exact absurd HA.out (by simp[ententeref13_Frame.j2])
         |succ xQ=>
          have H:=HA.out
          clear HA
          simp only[ententeref13_Frame.j2]at H
          by_cases o6:bG=true
          ·subst o6
           have H1:(some 130)=some r:=by rw[if_pos rfl]at H;exact H
           clear H
           have H:=H1
           clear H1
           obtain rfl:=Option.some.inj H
           go_wp2
           go_ret
           exact⟨by rfl,HB.out⟩
          ·replace o6:=Bool.eq_false_iff.mpr o6
           subst o6
           have H1:(some 0)=some r:=by rw[if_neg (show ¬ (false=true)by decide)]at H;exact H
           clear H
           have H:=H1
           clear H1
           obtain rfl:=Option.some.inj H
           go_wp2
           go_ret
           exact⟨by rfl,HB.out⟩
       ·rw[if_neg dY]at H
        have dR:=beq_eq_false_iff_ne.mpr dY
        have dS:=bne_iff_ne.mpr dY
        obtain⟨⟨dN,dO⟩,fZ,H⟩:=Option.bind_eq_some_iff.mp H
        try dsimp only at H
        have wZ:=am fZ
        clear fZ
        by_cases d3:dN=aK
        ·rw[if_pos d3]at H
         have f0:=beq_iff_eq.mpr d3
         have f1:=bne_eq_false_iff_eq.mpr d3
         clear d3
         by_cases d4:dO=aL
         ·rw[if_pos d4]at H
          have f2:=beq_iff_eq.mpr d4
          have f3:=bne_eq_false_iff_eq.mpr d4
          clear d4
          obtain rfl:=Option.some.inj H
          obtain⟨o7,o8,o9,pA,pB,pC,pD,pE,pF,pG,f4,f5⟩:=bc12 aA.out
          obtain⟨pH,pI,pJ,pK,pL,pM,pN,pO,pP,pQ,f6,f7⟩:=bf12 aA.out
          go_wp2_with (first|((with_reducible refine gate_dst (N:=3) rfl ?_);(try(refine gate_guard (by rfl) ?_;dsimp only));refine box_event ?hg (N:=3) ?hd (cs:=#[i6 0,i6 0,i6 0,.slice none 0 0,.string (⟨#[]⟩:ByteArray),i6 0]) (t:=26) ?hr ?_;(case hd=> rfl);(case hg=> rfl);(case hr=> (go_simp;done));intro aZ hg xS hbox hb;have aE:=am (hbox);have bT:=am (gsz hg HB.out);have bA:=am (gsz hg HB.out);replace HB:=am (below_step (HB.out) hb);have aB:=am ((by rw[hg];exact Nat.ne_of_lt (blk_lt aA.out):bD≠aZ));have aF:=am ((by rw[hg];exact Nat.ne_of_gt (blk_lt aA.out):aZ≠bD));replace aA:=am (blk_below aA.out hb);clear hb hbox hg;have xH:=aF.out;have xI:=aB.out;obtain⟨pR,pS,pT,pU,pV,pW⟩:=bc6 aE.out;obtain⟨pX,pY,pZ,p0,p1,p2⟩:=bf6 aE.out;obtain⟨p3,p4,p5,p6,p7,p8,p9,qA,qB,qC,f8,f9⟩:=bc12 aA.out;obtain⟨qD,qE,qF,qG,qH,qI,qJ,qK,qL,qM,gA,gB⟩:=bf12 aA.out)|((with_reducible refine gate_callee (f:=28) rfl ?_);refine goesL_ (some 108) rfl rfl Tryz.func28 (by kernel_rfl) rfl #[.agg #[i6 aH,i6 aI,i6 aJ,.slice bF aG.length c0_9,.string aC,i6 aD]] rfl (by(try simp only[l_m,l_c,l_n]);rfl) ?_;(with_reducible refine(ententeref13_Ends.calls bH aH aI aJ _ _ aG aC aD dN dO _ ?side1 ?side2 wZ.out).mono ?_);(case side1=> exact Kd.C_below bN.out (bs6 HB.out bA.out));(case side2=> exact bO.out);rintro e xT ⟨rfl,hb⟩;refine⟨_,rfl,?_⟩;replace aA:=am (blk_below (g:=bD) (o:=.cells #[i6 aK,i6 aL,i6 aO,i6 aM,i6 aN,i6 aP,i6 aH,i6 aI,i6 aJ,.slice bF aG.length c0_9,.string aC,i6 aD] 28 (0,0)) (by(iterate 6 refine blk_far ?_ aB.out _);exact aA.out) hb);replace aE:=am (blk_below (g:=aZ) (o:=.cells #[i6 aH,i6 aI,i6 aJ,.slice bF aG.length c0_9,.string aC,i6 aD] 26 (0,0)) (by exact bp (bp (bp (bp (bp (bp aE.out 0) 1) 2) 3) 4) 5) hb);replace HB:=am (below_step (bs6 HB.out bA.out) hb);clear hb;obtain⟨qN,qO,qP,qQ,qR,qS,qT,qU,qV,qW,gC,gD⟩:=bc12 aA.out;obtain⟨qX,qY,qZ,q0,q1,q2,q3,q4,q5,q6,gE,gF⟩:=bf12 aA.out))
          go_ret
          exact⟨by rfl,HB.out⟩
         ·rw[if_neg d4]at H
          have f2:=beq_eq_false_iff_ne.mpr d4
          have f3:=bne_iff_ne.mpr d4
          obtain rfl:=Option.some.inj H
          obtain⟨q7,q8,q9,rA,rB,rC,rD,rE,rF,rG,gG,gH⟩:=bc12 aA.out
          obtain⟨rH,rI,rJ,rK,rL,rM,rN,rO,rP,rQ,gI,gJ⟩:=bf12 aA.out
          go_wp2_with (first|((with_reducible refine gate_dst (N:=3) rfl ?_);(try(refine gate_guard (by rfl) ?_;dsimp only));refine box_event ?hg (N:=3) ?hd (cs:=#[i6 0,i6 0,i6 0,.slice none 0 0,.string (⟨#[]⟩:ByteArray),i6 0]) (t:=26) ?hr ?_;(case hd=> rfl);(case hg=> rfl);(case hr=> (go_simp;done));intro aZ hg xU hbox hb;have aE:=am (hbox);have bT:=am (gsz hg HB.out);have bA:=am (gsz hg HB.out);replace HB:=am (below_step (HB.out) hb);have aB:=am ((by rw[hg];exact Nat.ne_of_lt (blk_lt aA.out):bD≠aZ));have aF:=am ((by rw[hg];exact Nat.ne_of_gt (blk_lt aA.out):aZ≠bD));replace aA:=am (blk_below aA.out hb);clear hb hbox hg;have xJ:=aF.out;have xK:=aB.out;obtain⟨rR,rS,rT,rU,rV,rW⟩:=bc6 aE.out;obtain⟨rX,rY,rZ,r0,r1,r2⟩:=bf6 aE.out;obtain⟨r3,r4,r5,r6,r7,r8,r9,sA,sB,sC,gK,gL⟩:=bc12 aA.out;obtain⟨sD,sE,sF,sG,sH,sI,sJ,sK,sL,sM,gM,gN⟩:=bf12 aA.out)|((with_reducible refine gate_callee (f:=28) rfl ?_);refine goesL_ (some 108) rfl rfl Tryz.func28 (by kernel_rfl) rfl #[.agg #[i6 aH,i6 aI,i6 aJ,.slice bF aG.length c0_9,.string aC,i6 aD]] rfl (by(try simp only[l_m,l_c,l_n]);rfl) ?_;(with_reducible refine(ententeref13_Ends.calls bH aH aI aJ _ _ aG aC aD dN dO _ ?side1 ?side2 wZ.out).mono ?_);(case side1=> exact Kd.C_below bN.out (bs6 HB.out bA.out));(case side2=> exact bO.out);rintro e xV ⟨rfl,hb⟩;refine⟨_,rfl,?_⟩;replace aA:=am (blk_below (g:=bD) (o:=.cells #[i6 aK,i6 aL,i6 aO,i6 aM,i6 aN,i6 aP,i6 aH,i6 aI,i6 aJ,.slice bF aG.length c0_9,.string aC,i6 aD] 28 (0,0)) (by(iterate 6 refine blk_far ?_ aB.out _);exact aA.out) hb);replace aE:=am (blk_below (g:=aZ) (o:=.cells #[i6 aH,i6 aI,i6 aJ,.slice bF aG.length c0_9,.string aC,i6 aD] 26 (0,0)) (by exact bp (bp (bp (bp (bp (bp aE.out 0) 1) 2) 3) 4) 5) hb);replace HB:=am (below_step (bs6 HB.out bA.out) hb);clear hb;obtain⟨sN,sO,sP,sQ,sR,sS,sT,sU,sV,sW,gO,gP⟩:=bc12 aA.out;obtain⟨sX,sY,sZ,s0,s1,s2,s3,s4,s5,s6,gQ,gR⟩:=bf12 aA.out))
          go_ret
          exact⟨by rfl,HB.out⟩
        ·rw[if_neg d3]at H
         have f0:=beq_eq_false_iff_ne.mpr d3
         have f1:=bne_iff_ne.mpr d3
         obtain rfl:=Option.some.inj H
         obtain⟨s7,s8,s9,tA,tB,tC,tD,tE,tF,tG,gS,gT⟩:=bc12 aA.out
         obtain⟨tH,tI,tJ,tK,tL,tM,tN,tO,tP,tQ,gU,gV⟩:=bf12 aA.out
         go_wp2_with (first|((with_reducible refine gate_dst (N:=3) rfl ?_);(try(refine gate_guard (by rfl) ?_;dsimp only));refine box_event ?hg (N:=3) ?hd (cs:=#[i6 0,i6 0,i6 0,.slice none 0 0,.string (⟨#[]⟩:ByteArray),i6 0]) (t:=26) ?hr ?_;(case hd=> rfl);(case hg=> rfl);(case hr=> (go_simp;done));intro aZ hg xW hbox hb;have aE:=am (hbox);have bT:=am (gsz hg HB.out);have bA:=am (gsz hg HB.out);replace HB:=am (below_step (HB.out) hb);have aB:=am ((by rw[hg];exact Nat.ne_of_lt (blk_lt aA.out):bD≠aZ));have aF:=am ((by rw[hg];exact Nat.ne_of_gt (blk_lt aA.out):aZ≠bD));replace aA:=am (blk_below aA.out hb);clear hb hbox hg;have xL:=aF.out;have xM:=aB.out;obtain⟨tR,tS,tT,tU,tV,tW⟩:=bc6 aE.out;obtain⟨tX,tY,tZ,t0,t1,t2⟩:=bf6 aE.out;obtain⟨t3,t4,t5,t6,t7,t8,t9,uA,uB,uC,gW,gX⟩:=bc12 aA.out;obtain⟨uD,uE,uF,uG,uH,uI,uJ,uK,uL,uM,gY,gZ⟩:=bf12 aA.out)|((with_reducible refine gate_callee (f:=28) rfl ?_);refine goesL_ (some 108) rfl rfl Tryz.func28 (by kernel_rfl) rfl #[.agg #[i6 aH,i6 aI,i6 aJ,.slice bF aG.length c0_9,.string aC,i6 aD]] rfl (by(try simp only[l_m,l_c,l_n]);rfl) ?_;(with_reducible refine(ententeref13_Ends.calls bH aH aI aJ _ _ aG aC aD dN dO _ ?side1 ?side2 wZ.out).mono ?_);(case side1=> exact Kd.C_below bN.out (bs6 HB.out bA.out));(case side2=> exact bO.out);rintro e xX ⟨rfl,hb⟩;refine⟨_,rfl,?_⟩;replace aA:=am (blk_below (g:=bD) (o:=.cells #[i6 aK,i6 aL,i6 aO,i6 aM,i6 aN,i6 aP,i6 aH,i6 aI,i6 aJ,.slice bF aG.length c0_9,.string aC,i6 aD] 28 (0,0)) (by(iterate 6 refine blk_far ?_ aB.out _);exact aA.out) hb);replace aE:=am (blk_below (g:=aZ) (o:=.cells #[i6 aH,i6 aI,i6 aJ,.slice bF aG.length c0_9,.string aC,i6 aD] 26 (0,0)) (by exact bp (bp (bp (bp (bp (bp aE.out 0) 1) 2) 3) 4) 5) hb);replace HB:=am (below_step (bs6 HB.out bA.out) hb);clear hb;obtain⟨uN,uO,uP,uQ,uR,uS,uT,uU,uV,uW,g0,g1⟩:=bc12 aA.out;obtain⟨uX,uY,uZ,u0,u1,u2,u3,u4,u5,u6,g2,g3⟩:=bf12 aA.out))
         go_ret
         exact⟨by rfl,HB.out⟩

end Go.Proofs.YtlaeihdldofkcaaGreatDoor.PN

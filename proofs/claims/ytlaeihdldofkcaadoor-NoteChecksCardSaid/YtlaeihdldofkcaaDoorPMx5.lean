/- The machine side of this seat's laws: plain functions, and proofs that the calls do what they say; written by a program of this session over the translation; no conditions beyond those typed. -/
import Derived.Test.YtlaeihdldofkcaaDoorPMx0
import Derived.Test.YtlaeihdldofkcaaDoorPMx4
namespace Go.Proofs.YtlaeihdldofkcaaDoor.PN
open Go.RowKit Go.Proofs.YtlaeihdldofkcaaDoorW.PrintWords Go.Proofs.YtlaeihdldofkcaaDoorW.PrintLast Go.Proofs.YtlaeihdldofkcaaDoorW.PrintMore
attribute [local go_sem] max2_int min2_int max_two min_two max_three min_three max_four min_four   -- for this text's walks alone
set_option linter.unusedVariables false
set_option linter.unusedSimpArgs false

/-! ### pack_TakeNumber: function 45 -/
mutual
def pack_TakeNumber.j0 : Nat → ByteArray → Int → Bool → Option (Int × Int × Int)
 | 0, _, _, _ => none
 | k + 1, x0, x1, x17 => if x17 = true then (some (0, 0, 2)) else (pack_TakeNumber.l0 k x0 x1 0 0)
def pack_TakeNumber.l0 : Nat → ByteArray → Int → Int → Int → Option (Int × Int × Int)
 | 0, _, _, _, _ => none
 | k + 1, x0, x1, x7, x18 => if x18 < 10 then (if (wrap64 (x1 + x18)) = (x0.size : Int) then (some (0, 0, 10)) else (if 0 ≤ (wrap64 (x1 + x18)) then (if (wrap64 (x1 + x18)) < (x0.size : Int) then (if x18 = 9 then (pack_TakeNumber.j2 k x0 x1 x7 x18 (bt x0 (wrap64 (x1 + x18))) x18 (decide ((bt x0 (wrap64 (x1 + x18))) > 1))) else (pack_TakeNumber.j2 k x0 x1 x7 x18 (bt x0 (wrap64 (x1 + x18))) x18 false)) else (none)) else (none))) else (some (0, 0, 11))
def pack_TakeNumber.j2 : Nat → ByteArray → Int → Int → Int → Int → Int → Bool → Option (Int × Int × Int)
 | 0, _, _, _, _, _, _, _ => none
 | k + 1, x0, x1, x7, x8, x9, x18, x37 => if x37 = true then (some (0, 0, 11)) else (if 0 ≤ (IntKind.u64.wrap (wrap64 (7 * x8))) then (if x9 ≥ 128 then (pack_TakeNumber.l0 k x0 x1 (Go.bits .or .u64 x7 (shl .u64 (IntKind.u64.wrap (Go.bits .and .u8 x9 127)) (IntKind.u64.wrap (wrap64 (7 * x8))))) (wrap64 (x18 + 1))) else (if x9 = 0 then (if x8 > 0 then (some (0, 0, 11)) else (some (Go.bits .or .u64 x7 (shl .u64 (IntKind.u64.wrap (Go.bits .and .u8 x9 127)) (IntKind.u64.wrap (wrap64 (7 * x8)))), wrap64 ((wrap64 (x1 + x8)) + 1), 0))) else (some (Go.bits .or .u64 x7 (shl .u64 (IntKind.u64.wrap (Go.bits .and .u8 x9 127)) (IntKind.u64.wrap (wrap64 (7 * x8)))), wrap64 ((wrap64 (x1 + x8)) + 1), 0)))) else (none))
end
def pack_TakeNumber.f (k : Nat) (a0 : ByteArray) (a1 : Int) : Option (Int × Int × Int) := if a1 < 0 then (pack_TakeNumber.j0 k a0 a1 true) else (pack_TakeNumber.j0 k a0 a1 (decide (a1 > (a0.size : Int))))
theorem pack_TakeNumber.mono_l : ∀ k, (∀ y0 y1 y2, LeO (pack_TakeNumber.j0 k y0 y1 y2) (pack_TakeNumber.j0 (k + 1) y0 y1 y2)) ∧ (∀ y0 y1 y2 y3, LeO (pack_TakeNumber.l0 k y0 y1 y2 y3) (pack_TakeNumber.l0 (k + 1) y0 y1 y2 y3)) ∧ (∀ y0 y1 y2 y3 y4 y5 y6, LeO (pack_TakeNumber.j2 k y0 y1 y2 y3 y4 y5 y6) (pack_TakeNumber.j2 (k + 1) y0 y1 y2 y3 y4 y5 y6))
 | 0 => ⟨fun _ _ _ r h => by simp [pack_TakeNumber.j0] at h, fun _ _ _ _ r h => by simp [pack_TakeNumber.l0] at h, fun _ _ _ _ _ _ _ r h => by simp [pack_TakeNumber.j2] at h⟩
 | k + 1 => by
  obtain ⟨ih0, ih1, ih2⟩ := pack_TakeNumber.mono_l k
  refine ⟨?_, ?_, ?_⟩
  ·intro y0 y1 y2
   unfold pack_TakeNumber.j0
   repeat' first
   | (with_reducible exact ih0 _ _ _)
   | (with_reducible exact ih1 _ _ _ _)
   | (with_reducible exact ih2 _ _ _ _ _ _ _)
   | (with_reducible exact LeO.refl _)
   | (with_reducible exact LeO.none _)
   | (with_reducible refine LeO.ite ?_ ?_)
   | (with_reducible refine LeO.bind ?_ (fun _ => ?_))
   | exact ih0 _ _ _
   | exact ih1 _ _ _ _
   | exact ih2 _ _ _ _ _ _ _
   | exact LeO.none _
   | refine LeO.ite ?_ ?_
   | refine LeO.bind ?_ (fun _ => ?_)
  ·intro y0 y1 y2 y3
   unfold pack_TakeNumber.l0
   repeat' first
   | (with_reducible exact ih0 _ _ _)
   | (with_reducible exact ih1 _ _ _ _)
   | (with_reducible exact ih2 _ _ _ _ _ _ _)
   | (with_reducible exact LeO.refl _)
   | (with_reducible exact LeO.none _)
   | (with_reducible refine LeO.ite ?_ ?_)
   | (with_reducible refine LeO.bind ?_ (fun _ => ?_))
   | exact ih0 _ _ _
   | exact ih1 _ _ _ _
   | exact ih2 _ _ _ _ _ _ _
   | exact LeO.none _
   | refine LeO.ite ?_ ?_
   | refine LeO.bind ?_ (fun _ => ?_)
  ·intro y0 y1 y2 y3 y4 y5 y6
   unfold pack_TakeNumber.j2
   repeat' first
   | (with_reducible exact ih0 _ _ _)
   | (with_reducible exact ih1 _ _ _ _)
   | (with_reducible exact ih2 _ _ _ _ _ _ _)
   | (with_reducible exact LeO.refl _)
   | (with_reducible exact LeO.none _)
   | (with_reducible refine LeO.ite ?_ ?_)
   | (with_reducible refine LeO.bind ?_ (fun _ => ?_))
   | exact ih0 _ _ _
   | exact ih1 _ _ _ _
   | exact ih2 _ _ _ _ _ _ _
   | exact LeO.none _
   | refine LeO.ite ?_ ?_
   | refine LeO.bind ?_ (fun _ => ?_)
theorem pack_TakeNumber.mono : ∀ a0 a1 k, LeO (pack_TakeNumber.f k a0 a1) (pack_TakeNumber.f (k + 1) a0 a1) := by
 intro a0 a1 k
 obtain ⟨ih0, ih1, ih2⟩ := pack_TakeNumber.mono_l k
 unfold pack_TakeNumber.f
 repeat' first
   | (with_reducible exact ih0 _ _ _)
   | (with_reducible exact ih1 _ _ _ _)
   | (with_reducible exact ih2 _ _ _ _ _ _ _)
   | (with_reducible exact LeO.refl _)
   | (with_reducible exact LeO.none _)
   | (with_reducible refine LeO.ite ?_ ?_)
   | (with_reducible refine LeO.bind ?_ (fun _ => ?_))
   | exact ih0 _ _ _
   | exact ih1 _ _ _ _
   | exact ih2 _ _ _ _ _ _ _
   | exact LeO.none _
   | refine LeO.ite ?_ ?_
   | refine LeO.bind ?_ (fun _ => ?_)
set_option maxHeartbeats 8000000 in
set_option maxRecDepth 100000 in
theorem pack_TakeNumber.calls (k : Nat) (a0 : ByteArray) (a1 : Int) (r1 : Int) (r2 : Int) (r3 : Int) (w : World) (h : pack_TakeNumber.f k a0 a1 = some (r1, r2, r3)) :
  Calls Tryd.prog 45 #[.string a0, .int .i64 a1] w fun e w' => e = .returned (.tuple #[.int .u64 r1, .int .i64 r2, .int .i64 r3]) ∧ Drawn0 w w' := by
 have H : (if a1 < 0 then (pack_TakeNumber.j0 k a0 a1 true) else (pack_TakeNumber.j0 k a0 a1 (decide (a1 > (a0.size : Int))))) = some (r1, r2, r3) := h
 clear h
 have HC3 := Aside0.mk H
 clear H
 go_enter Tryd.func45, Tryd.ntmps45
 go_upto_region 1 with (fail)
 go_cut [17] (fun v17 wc => ∃ (kq : Nat) (x17_2 : Bool), v17 = .bool x17_2 ∧ Aside0 (pack_TakeNumber.j0 kq a0 a1 x17_2 = some (r1, r2, r3)) ∧ Aside0 (kq ≤ k) ∧ Drawn0 w wc)
 case first =>
  have H := HC3.out
  clear HC3
  by_cases c4 : a1 < 0
  ·rw [if_pos c4] at H
   have c4b0 : decide (a1 < 0) = true := decide_eq_true c4
   clear c4
   (skip)
   have H' := Aside0.mk H
   clear H
   go_wp2
   go_meet
   case rel => exact ⟨_, (true), (by rfl), H', ⟨by omega⟩, Drawn0.refl _⟩
  ·rw [if_neg c4] at H
   have c4b0 : decide (a1 < 0) = false := decide_eq_false c4
   clear c4
   (skip)
   have H' := Aside0.mk H
   clear H
   go_wp2
   go_meet
   case rel => exact ⟨_, (decide (a1 > (a0.size : Int))), (by rfl), H', ⟨by omega⟩, Drawn0.refl _⟩
 case rest =>
  clear HC3
  obtain ⟨kq, x17_2, rfl, HA, HJ2, ⟨mc2, rfl⟩⟩ := hcut
  cases kq with
  | zero => exact absurd HA.out (by simp [pack_TakeNumber.j0])
  | succ kj2 =>
   have H := HA.out
   clear HA
   simp only [pack_TakeNumber.j0] at H
   by_cases c5 : x17_2 = true
   ·subst c5
    have H1 : (some (0, 0, 2)) = some (r1, r2, r3) := by rw [if_pos rfl] at H; exact H
    clear H
    have H := H1
    clear H1
    simp only [Option.some.injEq, Prod.mk.injEq] at H
    obtain ⟨rfl, rfl, rfl⟩ := H
    go_wp2
    go_ret3
    exact ⟨by rfl, by repeat (first | exact Drawn0.refl _ | apply Drawn0.step)⟩
   ·replace c5 := Bool.eq_false_iff.mpr c5
    subst c5
    have H1 : (pack_TakeNumber.l0 kj2 a0 a1 0 0) = some (r1, r2, r3) := by rw [if_neg (show ¬ (false = true) by decide)] at H; exact H
    clear H
    have H := H1
    clear H1
    have H' := Aside0.mk H
    clear H
    go_wp2
    go_loopg [7, 18] kj2 (fun kq v7 v18 w' => ∃ (x7_2 : Int) (x18_2 : Int), v7 = .int .u64 x7_2 ∧ v18 = .int .i64 x18_2 ∧ Aside0 (pack_TakeNumber.l0 kq a0 a1 x7_2 x18_2 = some (r1, r2, r3)) ∧ Aside0 (kq ≤ kj2) ∧ Drawn0 w w')
    case atStart => exact ⟨(0), (0), (by rfl), (by rfl), H', ⟨Nat.le_refl _⟩, by repeat (first | exact Drawn0.refl _ | apply Drawn0.step)⟩
    case round =>
     clear H'
     obtain ⟨x7_2, x18_2, rfl, rfl, HA, HK2, ⟨m2, rfl⟩⟩ := hrel
     cases gk with
     | zero => exact absurd HA.out (by simp [pack_TakeNumber.l0])
     | succ k2 =>
      have H := HA.out
      clear HA
      simp only [pack_TakeNumber.l0] at H
      by_cases c6 : x18_2 < 10
      ·rw [if_pos c6] at H
       have c6b0 : decide (x18_2 < 10) = true := decide_eq_true c6
       clear c6
       by_cases c7 : (wrap64 (a1 + x18_2)) = (a0.size : Int)
       ·rw [if_pos c7] at H
        have c7b0 : ((wrap64 (a1 + x18_2)) == (a0.size : Int)) = true := beq_iff_eq.mpr c7
        have c7b1 : ((wrap64 (a1 + x18_2)) != (a0.size : Int)) = false := bne_eq_false_iff_eq.mpr c7
        clear c7
        simp only [Option.some.injEq, Prod.mk.injEq] at H
        obtain ⟨rfl, rfl, rfl⟩ := H
        go_wp2
        go_ret3
        exact ⟨by rfl, by repeat (first | exact Drawn0.refl _ | apply Drawn0.step)⟩
       ·rw [if_neg c7] at H
        have c7b0 : ((wrap64 (a1 + x18_2)) == (a0.size : Int)) = false := beq_eq_false_iff_ne.mpr c7
        have c7b1 : ((wrap64 (a1 + x18_2)) != (a0.size : Int)) = true := bne_iff_ne.mpr c7
        obtain ⟨ji8, hji8⟩ : ∃ j_ : Int, (wrap64 (a1 + x18_2)) = j_ := ⟨_, rfl⟩
        replace H : (if 0 ≤ (ji8) then (if (ji8) < (a0.size : Int) then (if x18_2 = 9 then (pack_TakeNumber.j2 k2 a0 a1 x7_2 x18_2 (bt a0 (ji8)) x18_2 (decide ((bt a0 (ji8)) > 1))) else (pack_TakeNumber.j2 k2 a0 a1 x7_2 x18_2 (bt a0 (ji8)) x18_2 false)) else (none)) else (none)) = some (r1, r2, r3) := by (rw [hji8] at H; exact H)
        (try rw [hji8] at c7b0)
        (try rw [hji8] at c7b1)
        have hji8w : (IntKind.i64.wrap (a1 + x18_2)) = ji8 := (i64_w _).trans hji8
        by_cases c9 : 0 ≤ (ji8)
        ·rw [if_pos c9] at H
         have c9b0 : decide (0 ≤ (ji8)) = true := decide_eq_true c9
         clear c9
         by_cases c10 : (ji8) < (a0.size : Int)
         ·rw [if_pos c10] at H
          have c10b0 : decide ((ji8) < (a0.size : Int)) = true := decide_eq_true c10
          clear c10
          have HC12 := Aside0.mk H
          clear H
          have p11 : 0 ≤ ((ji8) : Int) := of_decide_eq_true (by (with_reducible assumption))
          have q11 : (ji8) < (a0.size : Int) := of_decide_eq_true (by (with_reducible assumption))
          have hx11 := bt_at a0 (ji8)
          replace p11 := eq_true p11
          replace q11 := eq_true q11
          go_upto_region 10 with (fail)
          go_cut [37] (fun v37 wc => ∃ (kq : Nat) (x37_11 : Bool), v37 = .bool x37_11 ∧ Aside0 (pack_TakeNumber.j2 kq a0 a1 x7_2 x18_2 (bt a0 (ji8)) x18_2 x37_11 = some (r1, r2, r3)) ∧ Aside0 (kq ≤ k2) ∧ Drawn0 w wc)
          case first =>
           have H := HC12.out
           clear HC12
           by_cases c13 : x18_2 = 9
           ·rw [if_pos c13] at H
            have c13b0 : (x18_2 == 9) = true := beq_iff_eq.mpr c13
            have c13b1 : (x18_2 != 9) = false := bne_eq_false_iff_eq.mpr c13
            clear c13
            (skip)
            have H' := Aside0.mk H
            clear H
            go_wp2
            (go_meet)
            case rel => first | (exact ⟨_, (decide ((bt a0 (ji8)) > 1)), (by first | rfl | (simp; done) | (simp only [← hji8] <;> (first | rfl | (simp; done) | (simp; exact (fun (l_ : List UInt8) => show l_.isEmpty = !(l_ != []) from (by cases l_ <;> rfl)) _))) | (simp [*]; done)), H', ⟨by have := HJ2.out; have := HK2.out; omega⟩, by repeat (first | exact Drawn0.refl _ | apply Drawn0.step)⟩) | (exact ⟨_, (decide ((bt a0 (ji8)) > 1)), (by first | rfl | (simp; done) | (simp only [← hji8] <;> (first | rfl | (simp; done) | (simp; exact (fun (l_ : List UInt8) => show l_.isEmpty = !(l_ != []) from (by cases l_ <;> rfl)) _))) | (simp [*]; done)), (by simp only [← hji8] at H' ⊢; exact H'), ⟨by have := HJ2.out; have := HK2.out; first | omega | exact Nat.le_refl _⟩, by repeat (first | exact Drawn0.refl _ | apply Drawn0.step)⟩)
           ·rw [if_neg c13] at H
            have c13b0 : (x18_2 == 9) = false := beq_eq_false_iff_ne.mpr c13
            have c13b1 : (x18_2 != 9) = true := bne_iff_ne.mpr c13
            (skip)
            have H' := Aside0.mk H
            clear H
            go_wp2
            (go_meet)
            case rel => first | (exact ⟨_, (false), (by rfl), H', ⟨by have := HJ2.out; have := HK2.out; omega⟩, by repeat (first | exact Drawn0.refl _ | apply Drawn0.step)⟩) | (exact ⟨_, (false), (by first | rfl | (simp; done) | (simp [*]; done)), (by simp only [← hji8] at H' ⊢; exact H'), ⟨by have := HJ2.out; have := HK2.out; first | omega | exact Nat.le_refl _⟩, by repeat (first | exact Drawn0.refl _ | apply Drawn0.step)⟩)
          case rest =>
           clear HC12 c6b0 c7 c7b0 c7b1 c9b0 c10b0 p11 q11 hx11
           obtain ⟨kq, x37_11, rfl, HA, HJ11, ⟨mc11, rfl⟩⟩ := hcut
           cases kq with
           | zero => exact absurd HA.out (by simp [pack_TakeNumber.j2])
           | succ kj11 =>
            have H := HA.out
            clear HA
            simp only [pack_TakeNumber.j2] at H
            by_cases c14 : x37_11 = true
            ·subst c14
             have H1 : (some (0, 0, 11)) = some (r1, r2, r3) := by rw [if_pos rfl] at H; exact H
             clear H
             have H := H1
             clear H1
             simp only [Option.some.injEq, Prod.mk.injEq] at H
             obtain ⟨rfl, rfl, rfl⟩ := H
             go_wp2
             go_ret3
             exact ⟨by first | rfl | (simp; done) | (simp only [← hji8] <;> (first | rfl | (simp; done) | (simp; exact (fun (l_ : List UInt8) => show l_.isEmpty = !(l_ != []) from (by cases l_ <;> rfl)) _))) | (simp [*]; done), by repeat (first | exact Drawn0.refl _ | apply Drawn0.step)⟩
            ·replace c14 := Bool.eq_false_iff.mpr c14
             subst c14
             have H1 : (if 0 ≤ (IntKind.u64.wrap (wrap64 (7 * x18_2))) then (if (bt a0 (ji8)) ≥ 128 then (pack_TakeNumber.l0 kj11 a0 a1 (Go.bits .or .u64 x7_2 (shl .u64 (IntKind.u64.wrap (Go.bits .and .u8 (bt a0 (ji8)) 127)) (IntKind.u64.wrap (wrap64 (7 * x18_2))))) (wrap64 (x18_2 + 1))) else (if (bt a0 (ji8)) = 0 then (if x18_2 > 0 then (some (0, 0, 11)) else (some (Go.bits .or .u64 x7_2 (shl .u64 (IntKind.u64.wrap (Go.bits .and .u8 (bt a0 (ji8)) 127)) (IntKind.u64.wrap (wrap64 (7 * x18_2)))), wrap64 ((wrap64 (a1 + x18_2)) + 1), 0))) else (some (Go.bits .or .u64 x7_2 (shl .u64 (IntKind.u64.wrap (Go.bits .and .u8 (bt a0 (ji8)) 127)) (IntKind.u64.wrap (wrap64 (7 * x18_2)))), wrap64 ((wrap64 (a1 + x18_2)) + 1), 0)))) else (none)) = some (r1, r2, r3) := by rw [if_neg (show ¬ (false = true) by decide)] at H; exact H
             clear H
             have H := H1
             clear H1
             obtain ⟨ji15, hji15⟩ : ∃ j_ : Int, (IntKind.u64.wrap (wrap64 (7 * x18_2))) = j_ := ⟨_, rfl⟩
             replace H : (if 0 ≤ (ji15) then (if (bt a0 (ji8)) ≥ 128 then (pack_TakeNumber.l0 kj11 a0 a1 (Go.bits .or .u64 x7_2 (shl .u64 (IntKind.u64.wrap (Go.bits .and .u8 (bt a0 (ji8)) 127)) (ji15))) (wrap64 (x18_2 + 1))) else (if (bt a0 (ji8)) = 0 then (if x18_2 > 0 then (some (0, 0, 11)) else (some (Go.bits .or .u64 x7_2 (shl .u64 (IntKind.u64.wrap (Go.bits .and .u8 (bt a0 (ji8)) 127)) (ji15)), wrap64 ((wrap64 (a1 + x18_2)) + 1), 0))) else (some (Go.bits .or .u64 x7_2 (shl .u64 (IntKind.u64.wrap (Go.bits .and .u8 (bt a0 (ji8)) 127)) (ji15)), wrap64 ((wrap64 (a1 + x18_2)) + 1), 0)))) else (none)) = some (r1, r2, r3) := by (rw [hji15] at H; exact H)
             by_cases c16 : 0 ≤ (ji15)
             ·rw [if_pos c16] at H
              have c16b0 := eq_true c16
              have c16b1 : decide (0 ≤ (ji15)) = true := decide_eq_true c16
              clear c16
              obtain ⟨ji17, hji17⟩ : ∃ j_ : Int, (shl .u64 (IntKind.u64.wrap (Go.bits .and .u8 (bt a0 (ji8)) 127)) (ji15)) = j_ := ⟨_, rfl⟩
              replace H : (if (bt a0 (ji8)) ≥ 128 then (pack_TakeNumber.l0 kj11 a0 a1 (Go.bits .or .u64 x7_2 (ji17)) (wrap64 (x18_2 + 1))) else (if (bt a0 (ji8)) = 0 then (if x18_2 > 0 then (some (0, 0, 11)) else (some (Go.bits .or .u64 x7_2 (ji17), wrap64 ((wrap64 (a1 + x18_2)) + 1), 0))) else (some (Go.bits .or .u64 x7_2 (ji17), wrap64 ((wrap64 (a1 + x18_2)) + 1), 0)))) = some (r1, r2, r3) := by (rw [hji17] at H; exact H)
              have hji17_ : (IntKind.u64.wrap ((IntKind.u64.wrap (Go.bits .and .u8 (bt a0 (ji8)) 127)) * 2 ^ min (ji15).toNat 64)) = ji17 := hji17
              have hji17z : (ji15) ≤ 64 → (IntKind.u64.wrap ((IntKind.u64.wrap (Go.bits .and .u8 (bt a0 (ji8)) 127)) * 2 ^ (ji15).toNat)) = ji17 := shl_small hji17
              by_cases c18 : (bt a0 (ji8)) ≥ 128
              ·rw [if_pos c18] at H
               have c18b0 : decide (128 ≤ (bt a0 (ji8))) = true := decide_eq_true c18
               clear c18
               have H' := Aside0.mk H
               clear H
               go_wp2
               (go_roundg kj11)
               case measure => have := HJ2.out; have := HK2.out; have := HJ11.out; omega
               case rel => first | (exact ⟨(Go.bits .or .u64 x7_2 (ji17)), (wrap64 (x18_2 + 1)), (by first | rfl | (simp; done) | (simp only [← hji17] <;> (first | rfl | (simp; done) | (simp; exact (fun (l_ : List UInt8) => show l_.isEmpty = !(l_ != []) from (by cases l_ <;> rfl)) _))) | (simp [*]; done)), (by rfl), H', ⟨by have := HJ2.out; have := HK2.out; have := HJ11.out; omega⟩, by repeat (first | exact Drawn0.refl _ | apply Drawn0.step)⟩) | (exact ⟨(Go.bits .or .u64 x7_2 (ji17)), (wrap64 (x18_2 + 1)), (by first | rfl | (simp; done) | (simp only [← hji17] <;> (first | rfl | (simp; done) | (simp; exact (fun (l_ : List UInt8) => show l_.isEmpty = !(l_ != []) from (by cases l_ <;> rfl)) _))) | (simp [*]; done)), (by first | rfl | (simp; done) | (simp [*]; done)), (by simp only [← hji8, ← hji15, ← hji17] at H' ⊢; exact H'), ⟨by have := HJ2.out; have := HK2.out; have := HJ11.out; omega⟩, by repeat (first | exact Drawn0.refl _ | apply Drawn0.step)⟩)
              ·rw [if_neg c18] at H
               have c18b0 : decide (128 ≤ (bt a0 (ji8))) = false := decide_eq_false c18
               clear c18
               by_cases c19 : (bt a0 (ji8)) = 0
               ·rw [if_pos c19] at H
                have c19b0 : ((bt a0 (ji8)) == 0) = true := beq_iff_eq.mpr c19
                have c19b1 : ((bt a0 (ji8)) != 0) = false := bne_eq_false_iff_eq.mpr c19
                clear c19
                by_cases c20 : x18_2 > 0
                ·rw [if_pos c20] at H
                 have c20b0 : decide (0 < x18_2) = true := decide_eq_true c20
                 clear c20
                 simp only [Option.some.injEq, Prod.mk.injEq] at H
                 obtain ⟨rfl, rfl, rfl⟩ := H
                 go_wp2
                 go_ret3
                 exact ⟨by first | rfl | (simp; done) | (simp only [← hji8, ← hji15, ← hji17] <;> (first | rfl | (simp; done) | (simp; exact (fun (l_ : List UInt8) => show l_.isEmpty = !(l_ != []) from (by cases l_ <;> rfl)) _))) | (simp [*]; done), by repeat (first | exact Drawn0.refl _ | apply Drawn0.step)⟩
                ·rw [if_neg c20] at H
                 have c20b0 : decide (0 < x18_2) = false := decide_eq_false c20
                 clear c20
                 simp only [Option.some.injEq, Prod.mk.injEq] at H
                 obtain ⟨rfl, rfl, rfl⟩ := H
                 go_wp2
                 go_ret3
                 exact ⟨by first | rfl | (simp; done) | (simp only [← hji8, ← hji15, ← hji17] <;> (rfl)) | (simp [*]; done), by repeat (first | exact Drawn0.refl _ | apply Drawn0.step)⟩
               ·rw [if_neg c19] at H
                have c19b0 : ((bt a0 (ji8)) == 0) = false := beq_eq_false_iff_ne.mpr c19
                have c19b1 : ((bt a0 (ji8)) != 0) = true := bne_iff_ne.mpr c19
                simp only [Option.some.injEq, Prod.mk.injEq] at H
                obtain ⟨rfl, rfl, rfl⟩ := H
                go_wp2
                go_ret3
                exact ⟨by first | rfl | (simp; done) | (simp only [← hji8, ← hji15, ← hji17] <;> (rfl)) | (simp [*]; done), by repeat (first | exact Drawn0.refl _ | apply Drawn0.step)⟩
             ·rw [if_neg c16] at H
              exact absurd H (by simp)
         ·rw [if_neg c10] at H
          exact absurd H (by simp)
        ·rw [if_neg c9] at H
         exact absurd H (by simp)
      ·rw [if_neg c6] at H
       have c6b0 : decide (x18_2 < 10) = false := decide_eq_false c6
       clear c6
       simp only [Option.some.injEq, Prod.mk.injEq] at H
       obtain ⟨rfl, rfl, rfl⟩ := H
       go_wp2
       go_ret3
       exact ⟨by rfl, by repeat (first | exact Drawn0.refl _ | apply Drawn0.step)⟩

/-! ### seal_Open: function 34 -/
def seal_Open.j0 : Nat → ByteArray → Int → Int → Bool → Option (ByteArray × Int × Int)
 | 0, _, _, _, _ => none
 | k + 1, x0, x1, x2, x13 => if x13 = true then (some ((⟨#[]⟩ : ByteArray), 0, 2)) else (if x1 = (x0.size : Int) then (some ((⟨#[]⟩ : ByteArray), 0, 10)) else (if 0 ≤ x1 then (if x1 < (x0.size : Int) then (if (bt x0 x1) = 231 then (if (wrap64 (x1 + 1)) = (x0.size : Int) then (some ((⟨#[]⟩ : ByteArray), 0, 10)) else (if 0 ≤ (wrap64 (x1 + 1)) then (if (wrap64 (x1 + 1)) < (x0.size : Int) then (if (wrap64 (bt x0 (wrap64 (x1 + 1)))) = x2 then ((pack_TakeNumber.f k x0 (wrap64 (x1 + 2))).bind fun bt189 => (if bt189.2.2 = 0 then (if bt189.1 > 30000 then (some ((⟨#[]⟩ : ByteArray), 0, 3)) else (if (wrap64 ((wrap64 (bt189.1)) + 8)) > (wrap64 ((x0.size : Int) - bt189.2.1)) then (some ((⟨#[]⟩ : ByteArray), 0, 10)) else (if x1 ≤ (wrap64 (bt189.2.1 + (wrap64 (bt189.1)))) then (if (wrap64 (bt189.2.1 + (wrap64 (bt189.1)))) ≤ (x0.size : Int) then ((seal_Sum.f (([x0.extract (x1 : Int).toNat ((wrap64 (bt189.2.1 + (wrap64 (bt189.1)))) : Int).toNat] : List ByteArray))).bind fun t195 => ((seal_eight.f t195).bind fun t196 => (if 0 ≤ (wrap64 (bt189.2.1 + (wrap64 (bt189.1)))) then (if (wrap64 (bt189.2.1 + (wrap64 (bt189.1)))) ≤ (wrap64 ((wrap64 (bt189.2.1 + (wrap64 (bt189.1)))) + 8)) then (if (wrap64 ((wrap64 (bt189.2.1 + (wrap64 (bt189.1)))) + 8)) ≤ (x0.size : Int) then (if t196.toList = (x0.extract ((wrap64 (bt189.2.1 + (wrap64 (bt189.1)))) : Int).toNat ((wrap64 ((wrap64 (bt189.2.1 + (wrap64 (bt189.1)))) + 8)) : Int).toNat).toList then (if 0 ≤ bt189.2.1 then (if bt189.2.1 ≤ (wrap64 (bt189.2.1 + (wrap64 (bt189.1)))) then (some (x0.extract (bt189.2.1 : Int).toNat ((wrap64 (bt189.2.1 + (wrap64 (bt189.1)))) : Int).toNat, wrap64 ((wrap64 (bt189.2.1 + (wrap64 (bt189.1)))) + 8), 0)) else (none)) else (none)) else (some ((⟨#[]⟩ : ByteArray), 0, 22))) else (none)) else (none)) else (none)))) else (none)) else (none)))) else (some ((⟨#[]⟩ : ByteArray), 0, bt189.2.2)))) else (some ((⟨#[]⟩ : ByteArray), 0, 21))) else (none)) else (none))) else (some ((⟨#[]⟩ : ByteArray), 0, 20))) else (none)) else (none)))
def seal_Open.f (k : Nat) (a0 : ByteArray) (a1 : Int) (a2 : Int) : Option (ByteArray × Int × Int) := if a1 < 0 then (seal_Open.j0 k a0 a1 a2 true) else (if a1 > (a0.size : Int) then (seal_Open.j0 k a0 a1 a2 true) else (if a2 < 0 then (seal_Open.j0 k a0 a1 a2 true) else (seal_Open.j0 k a0 a1 a2 (decide (a2 > 255)))))
theorem seal_Open.mono_l : ∀ k, (∀ y0 y1 y2 y3, LeO (seal_Open.j0 k y0 y1 y2 y3) (seal_Open.j0 (k + 1) y0 y1 y2 y3))
 | 0 => fun _ _ _ _ r h => by simp [seal_Open.j0] at h
 | k + 1 => by
  have ih0 := seal_Open.mono_l k
  ·intro y0 y1 y2 y3
   unfold seal_Open.j0
   repeat' first
   | (with_reducible exact ih0 _ _ _ _)
   | (with_reducible exact pack_TakeNumber.mono _ _ _)
   | (with_reducible exact LeO.refl _)
   | (with_reducible exact LeO.none _)
   | (with_reducible refine LeO.ite ?_ ?_)
   | (with_reducible refine LeO.bind ?_ (fun _ => ?_))
   | exact ih0 _ _ _ _
   | exact pack_TakeNumber.mono _ _ _
   | exact LeO.none _
   | refine LeO.ite ?_ ?_
   | refine LeO.bind ?_ (fun _ => ?_)
theorem seal_Open.mono : ∀ a0 a1 a2 k, LeO (seal_Open.f k a0 a1 a2) (seal_Open.f (k + 1) a0 a1 a2) := by
 intro a0 a1 a2 k
 have ih0 := seal_Open.mono_l k
 unfold seal_Open.f
 repeat' first
   | (with_reducible exact ih0 _ _ _ _)
   | (with_reducible exact pack_TakeNumber.mono _ _ _)
   | (with_reducible exact LeO.refl _)
   | (with_reducible exact LeO.none _)
   | (with_reducible refine LeO.ite ?_ ?_)
   | (with_reducible refine LeO.bind ?_ (fun _ => ?_))
   | exact ih0 _ _ _ _
   | exact pack_TakeNumber.mono _ _ _
   | exact LeO.none _
   | refine LeO.ite ?_ ?_
   | refine LeO.bind ?_ (fun _ => ?_)
def seal_Open.T19 : Bool × List (List Nat × List Nat) := (true, [([], []), ([], []), ([], []), ([0, 1, 2], [0, 1, 2]), ([3], [3]), ([4], [4]), ([5, 5], [5]), ([], []), ([], []), ([], []), ([9], [9]), ([7, 8, 10], [7, 8, 10]), ([6, 11], [6, 11])])
def seal_Open.B19 : List Nat := [0, 0, 0, 7, 15, 31, 63, 0, 0, 0, 512, 1920, 4095]
theorem seal_Open.tab19 : rtab .any (opsOf Tryd.f34 19) = seal_Open.T19 := by kernel_rfl
theorem seal_Open.bits19 : waitsOk seal_Open.T19.2 seal_Open.B19 = true := by kernel_rfl
set_option maxHeartbeats 8000000 in
set_option maxRecDepth 100000 in
theorem seal_Open.calls (k : Nat) (a0 : ByteArray) (a1 : Int) (a2 : Int) (r1 : ByteArray) (r2 : Int) (r3 : Int) (w : World) (h : seal_Open.f k a0 a1 a2 = some (r1, r2, r3)) :
  Calls Tryd.prog 34 #[.string a0, .int .i64 a1, .int .i64 a2] w fun e w' => e = .returned (.tuple #[.string r1, .int .i64 r2, .int .i64 r3]) ∧ Below w.heap.size w w' := by
 have HB := Aside0.mk (Below.refl w.heap.size w)
 have H : (if a1 < 0 then (seal_Open.j0 k a0 a1 a2 true) else (if a1 > (a0.size : Int) then (seal_Open.j0 k a0 a1 a2 true) else (if a2 < 0 then (seal_Open.j0 k a0 a1 a2 true) else (seal_Open.j0 k a0 a1 a2 (decide (a2 > 255)))))) = some (r1, r2, r3) := h
 clear h
 have HC4 := Aside0.mk H
 clear H
 go_enter Tryd.func34, Tryd.ntmps34
 go_upto_region 1 with (fail)
 go_cut [13] (fun v13 wc => ∃ (kq : Nat) (x13_3 : Bool), v13 = .bool x13_3 ∧ Aside0 (seal_Open.j0 kq a0 a1 a2 x13_3 = some (r1, r2, r3)) ∧ Aside0 (kq ≤ k) ∧ Aside0 (Below w.heap.size w wc))
 case first =>
  have H := HC4.out
  clear HC4
  by_cases c5 : a1 < 0
  ·rw [if_pos c5] at H
   have c5b0 : decide (a1 < 0) = true := decide_eq_true c5
   clear c5
   (skip)
   have H' := Aside0.mk H
   clear H
   go_wp2
   go_meet
   case rel => exact ⟨_, (true), (by rfl), H', ⟨by omega⟩, ⟨HB.out⟩⟩
  ·rw [if_neg c5] at H
   have c5b0 : decide (a1 < 0) = false := decide_eq_false c5
   clear c5
   (skip)
   by_cases c6 : a1 > (a0.size : Int)
   ·rw [if_pos c6] at H
    have c6b0 : decide ((a0.size : Int) < a1) = true := decide_eq_true c6
    clear c6
    have H' := Aside0.mk H
    clear H
    go_wp2
    go_meet
    case rel => exact ⟨_, (true), (by rfl), H', ⟨by omega⟩, ⟨HB.out⟩⟩
   ·rw [if_neg c6] at H
    have c6b0 : decide ((a0.size : Int) < a1) = false := decide_eq_false c6
    clear c6
    by_cases c7 : a2 < 0
    ·rw [if_pos c7] at H
     have c7b0 : decide (a2 < 0) = true := decide_eq_true c7
     clear c7
     have H' := Aside0.mk H
     clear H
     go_wp2
     go_meet
     case rel => exact ⟨_, (true), (by rfl), H', ⟨by omega⟩, ⟨HB.out⟩⟩
    ·rw [if_neg c7] at H
     have c7b0 : decide (a2 < 0) = false := decide_eq_false c7
     clear c7
     have H' := Aside0.mk H
     clear H
     go_wp2
     go_meet
     case rel => exact ⟨_, (decide (a2 > 255)), (by rfl), H', ⟨by omega⟩, ⟨HB.out⟩⟩
 case rest =>
  clear HC4
  obtain ⟨kq, x13_3, rfl, HA, HJ3, HB⟩ := hcut
  cases kq with
  | zero => exact absurd HA.out (by simp [seal_Open.j0])
  | succ kj3 =>
   have H := HA.out
   clear HA
   simp only [seal_Open.j0] at H
   by_cases c8 : x13_3 = true
   ·subst c8
    have H1 : (some ((⟨#[]⟩ : ByteArray), 0, 2)) = some (r1, r2, r3) := by rw [if_pos rfl] at H; exact H
    clear H
    have H := H1
    clear H1
    simp only [Option.some.injEq, Prod.mk.injEq] at H
    obtain ⟨rfl, rfl, rfl⟩ := H
    go_wp2
    go_ret3
    exact ⟨by rfl, HB.out⟩
   ·replace c8 := Bool.eq_false_iff.mpr c8
    subst c8
    have H1 : (if a1 = (a0.size : Int) then (some ((⟨#[]⟩ : ByteArray), 0, 10)) else (if 0 ≤ a1 then (if a1 < (a0.size : Int) then (if (bt a0 a1) = 231 then (if (wrap64 (a1 + 1)) = (a0.size : Int) then (some ((⟨#[]⟩ : ByteArray), 0, 10)) else (if 0 ≤ (wrap64 (a1 + 1)) then (if (wrap64 (a1 + 1)) < (a0.size : Int) then (if (wrap64 (bt a0 (wrap64 (a1 + 1)))) = a2 then ((pack_TakeNumber.f kj3 a0 (wrap64 (a1 + 2))).bind fun bt189 => (if bt189.2.2 = 0 then (if bt189.1 > 30000 then (some ((⟨#[]⟩ : ByteArray), 0, 3)) else (if (wrap64 ((wrap64 (bt189.1)) + 8)) > (wrap64 ((a0.size : Int) - bt189.2.1)) then (some ((⟨#[]⟩ : ByteArray), 0, 10)) else (if a1 ≤ (wrap64 (bt189.2.1 + (wrap64 (bt189.1)))) then (if (wrap64 (bt189.2.1 + (wrap64 (bt189.1)))) ≤ (a0.size : Int) then ((seal_Sum.f (([a0.extract (a1 : Int).toNat ((wrap64 (bt189.2.1 + (wrap64 (bt189.1)))) : Int).toNat] : List ByteArray))).bind fun t195 => ((seal_eight.f t195).bind fun t196 => (if 0 ≤ (wrap64 (bt189.2.1 + (wrap64 (bt189.1)))) then (if (wrap64 (bt189.2.1 + (wrap64 (bt189.1)))) ≤ (wrap64 ((wrap64 (bt189.2.1 + (wrap64 (bt189.1)))) + 8)) then (if (wrap64 ((wrap64 (bt189.2.1 + (wrap64 (bt189.1)))) + 8)) ≤ (a0.size : Int) then (if t196.toList = (a0.extract ((wrap64 (bt189.2.1 + (wrap64 (bt189.1)))) : Int).toNat ((wrap64 ((wrap64 (bt189.2.1 + (wrap64 (bt189.1)))) + 8)) : Int).toNat).toList then (if 0 ≤ bt189.2.1 then (if bt189.2.1 ≤ (wrap64 (bt189.2.1 + (wrap64 (bt189.1)))) then (some (a0.extract (bt189.2.1 : Int).toNat ((wrap64 (bt189.2.1 + (wrap64 (bt189.1)))) : Int).toNat, wrap64 ((wrap64 (bt189.2.1 + (wrap64 (bt189.1)))) + 8), 0)) else (none)) else (none)) else (some ((⟨#[]⟩ : ByteArray), 0, 22))) else (none)) else (none)) else (none)))) else (none)) else (none)))) else (some ((⟨#[]⟩ : ByteArray), 0, bt189.2.2)))) else (some ((⟨#[]⟩ : ByteArray), 0, 21))) else (none)) else (none))) else (some ((⟨#[]⟩ : ByteArray), 0, 20))) else (none)) else (none))) = some (r1, r2, r3) := by rw [if_neg (show ¬ (false = true) by decide)] at H; exact H
    clear H
    have H := H1
    clear H1
    by_cases c9 : a1 = (a0.size : Int)
    ·rw [if_pos c9] at H
     have c9b0 : (a1 == (a0.size : Int)) = true := beq_iff_eq.mpr c9
     have c9b1 : (a1 != (a0.size : Int)) = false := bne_eq_false_iff_eq.mpr c9
     clear c9
     simp only [Option.some.injEq, Prod.mk.injEq] at H
     obtain ⟨rfl, rfl, rfl⟩ := H
     go_wp2
     go_ret3
     exact ⟨by rfl, HB.out⟩
    ·rw [if_neg c9] at H
     have c9b0 : (a1 == (a0.size : Int)) = false := beq_eq_false_iff_ne.mpr c9
     have c9b1 : (a1 != (a0.size : Int)) = true := bne_iff_ne.mpr c9
     by_cases c10 : 0 ≤ a1
     ·rw [if_pos c10] at H
      have c10b0 : decide (0 ≤ a1) = true := decide_eq_true c10
      clear c10
      by_cases c11 : a1 < (a0.size : Int)
      ·rw [if_pos c11] at H
       have c11b0 : decide (a1 < (a0.size : Int)) = true := decide_eq_true c11
       clear c11
       by_cases c13 : (bt a0 a1) = 231
       ·rw [if_pos c13] at H
        have c13b0 : ((bt a0 a1) == 231) = true := beq_iff_eq.mpr c13
        have c13b1 : ((bt a0 a1) != 231) = false := bne_eq_false_iff_eq.mpr c13
        clear c13
        by_cases c14 : (wrap64 (a1 + 1)) = (a0.size : Int)
        ·rw [if_pos c14] at H
         have c14b0 : ((wrap64 (a1 + 1)) == (a0.size : Int)) = true := beq_iff_eq.mpr c14
         have c14b1 : ((wrap64 (a1 + 1)) != (a0.size : Int)) = false := bne_eq_false_iff_eq.mpr c14
         clear c14
         simp only [Option.some.injEq, Prod.mk.injEq] at H
         obtain ⟨rfl, rfl, rfl⟩ := H
         have p12 : 0 ≤ (a1 : Int) := of_decide_eq_true (by (with_reducible assumption))
         have q12 : a1 < (a0.size : Int) := of_decide_eq_true (by (with_reducible assumption))
         have hx12 := bt_at a0 a1
         replace p12 := eq_true p12
         replace q12 := eq_true q12
         go_wp2
         go_ret3
         exact ⟨by rfl, HB.out⟩
        ·rw [if_neg c14] at H
         have c14b0 : ((wrap64 (a1 + 1)) == (a0.size : Int)) = false := beq_eq_false_iff_ne.mpr c14
         have c14b1 : ((wrap64 (a1 + 1)) != (a0.size : Int)) = true := bne_iff_ne.mpr c14
         obtain ⟨ji15, hji15⟩ : ∃ j_ : Int, (wrap64 (a1 + 1)) = j_ := ⟨_, rfl⟩
         replace H : (if 0 ≤ (ji15) then (if (ji15) < (a0.size : Int) then (if (wrap64 (bt a0 (ji15))) = a2 then ((pack_TakeNumber.f kj3 a0 (wrap64 (a1 + 2))).bind fun bt189 => (if bt189.2.2 = 0 then (if bt189.1 > 30000 then (some ((⟨#[]⟩ : ByteArray), 0, 3)) else (if (wrap64 ((wrap64 (bt189.1)) + 8)) > (wrap64 ((a0.size : Int) - bt189.2.1)) then (some ((⟨#[]⟩ : ByteArray), 0, 10)) else (if a1 ≤ (wrap64 (bt189.2.1 + (wrap64 (bt189.1)))) then (if (wrap64 (bt189.2.1 + (wrap64 (bt189.1)))) ≤ (a0.size : Int) then ((seal_Sum.f (([a0.extract (a1 : Int).toNat ((wrap64 (bt189.2.1 + (wrap64 (bt189.1)))) : Int).toNat] : List ByteArray))).bind fun t195 => ((seal_eight.f t195).bind fun t196 => (if 0 ≤ (wrap64 (bt189.2.1 + (wrap64 (bt189.1)))) then (if (wrap64 (bt189.2.1 + (wrap64 (bt189.1)))) ≤ (wrap64 ((wrap64 (bt189.2.1 + (wrap64 (bt189.1)))) + 8)) then (if (wrap64 ((wrap64 (bt189.2.1 + (wrap64 (bt189.1)))) + 8)) ≤ (a0.size : Int) then (if t196.toList = (a0.extract ((wrap64 (bt189.2.1 + (wrap64 (bt189.1)))) : Int).toNat ((wrap64 ((wrap64 (bt189.2.1 + (wrap64 (bt189.1)))) + 8)) : Int).toNat).toList then (if 0 ≤ bt189.2.1 then (if bt189.2.1 ≤ (wrap64 (bt189.2.1 + (wrap64 (bt189.1)))) then (some (a0.extract (bt189.2.1 : Int).toNat ((wrap64 (bt189.2.1 + (wrap64 (bt189.1)))) : Int).toNat, wrap64 ((wrap64 (bt189.2.1 + (wrap64 (bt189.1)))) + 8), 0)) else (none)) else (none)) else (some ((⟨#[]⟩ : ByteArray), 0, 22))) else (none)) else (none)) else (none)))) else (none)) else (none)))) else (some ((⟨#[]⟩ : ByteArray), 0, bt189.2.2)))) else (some ((⟨#[]⟩ : ByteArray), 0, 21))) else (none)) else (none)) = some (r1, r2, r3) := by (rw [hji15] at H; exact H)
         (try rw [hji15] at c14b0)
         (try rw [hji15] at c14b1)
         have hji15w : (IntKind.i64.wrap (a1 + 1)) = ji15 := (i64_w _).trans hji15
         by_cases c16 : 0 ≤ (ji15)
         ·rw [if_pos c16] at H
          have c16b0 : decide (0 ≤ (ji15)) = true := decide_eq_true c16
          clear c16
          by_cases c17 : (ji15) < (a0.size : Int)
          ·rw [if_pos c17] at H
           have c17b0 : decide ((ji15) < (a0.size : Int)) = true := decide_eq_true c17
           clear c17
           by_cases c19 : (wrap64 (bt a0 (ji15))) = a2
           ·rw [if_pos c19] at H
            have c19b0 : ((wrap64 (bt a0 (ji15))) == a2) = true := beq_iff_eq.mpr c19
            have c19b1 : ((wrap64 (bt a0 (ji15))) != a2) = false := bne_eq_false_iff_eq.mpr c19
            clear c19
            obtain ⟨⟨t189, t190, t191⟩, A200, H⟩ := Option.bind_eq_some_iff.mp H
            try dsimp only at H
            have A20 := Aside0.mk A200
            clear A200
            by_cases c21 : t191 = 0
            ·rw [if_pos c21] at H
             have c21b0 : (t191 == 0) = true := beq_iff_eq.mpr c21
             have c21b1 : (t191 != 0) = false := bne_eq_false_iff_eq.mpr c21
             clear c21
             by_cases c22 : t189 > 30000
             ·rw [if_pos c22] at H
              have c22b0 : decide (30000 < t189) = true := decide_eq_true c22
              clear c22
              simp only [Option.some.injEq, Prod.mk.injEq] at H
              obtain ⟨rfl, rfl, rfl⟩ := H
              have p12 : 0 ≤ (a1 : Int) := of_decide_eq_true (by (with_reducible assumption))
              have q12 : a1 < (a0.size : Int) := of_decide_eq_true (by (with_reducible assumption))
              have hx12 := bt_at a0 a1
              replace p12 := eq_true p12
              replace q12 := eq_true q12
              have p18 : 0 ≤ ((ji15) : Int) := of_decide_eq_true (by (with_reducible assumption))
              have q18 : (ji15) < (a0.size : Int) := of_decide_eq_true (by (with_reducible assumption))
              have hx18 := bt_at a0 (ji15)
              replace p18 := eq_true p18
              replace q18 := eq_true q18
              go_wp2_with (first | ((with_reducible refine gate_callee (f := 45) rfl ?_); refine goesL_ (some 58) rfl rfl Tryd.func45 (by kernel_rfl) rfl #[.string a0, .int .i64 (wrap64 (a1 + 2))] rfl (by (try simp only [List.map_toArray, List.map_cons, List.map_nil]); rfl) ?_; (with_reducible refine (pack_TakeNumber.calls kj3 a0 (wrap64 (a1 + 2)) t189 t190 t191 _ A20.out).mono ?_); rintro e w' ⟨rfl, ⟨nd, rfl⟩⟩; refine ⟨_, rfl, ?_⟩))
              go_ret3
              exact ⟨by first | rfl | (simp [errW_none, errW_some] <;> rfl) | (simp only [← hji15]; first | rfl | (simp [errW_none, errW_some] <;> rfl)) | (simp [*, errW_none, errW_some] <;> rfl), pw_below_drewN HB.out _⟩
             ·rw [if_neg c22] at H
              have c22b0 : decide (30000 < t189) = false := decide_eq_false c22
              clear c22
              by_cases c23 : (wrap64 ((wrap64 (t189)) + 8)) > (wrap64 ((a0.size : Int) - t190))
              ·rw [if_pos c23] at H
               have c23b0 : decide ((wrap64 ((a0.size : Int) - t190)) < (wrap64 ((wrap64 (t189)) + 8))) = true := decide_eq_true c23
               clear c23
               simp only [Option.some.injEq, Prod.mk.injEq] at H
               obtain ⟨rfl, rfl, rfl⟩ := H
               have p12 : 0 ≤ (a1 : Int) := of_decide_eq_true (by (with_reducible assumption))
               have q12 : a1 < (a0.size : Int) := of_decide_eq_true (by (with_reducible assumption))
               have hx12 := bt_at a0 a1
               replace p12 := eq_true p12
               replace q12 := eq_true q12
               have p18 : 0 ≤ ((ji15) : Int) := of_decide_eq_true (by (with_reducible assumption))
               have q18 : (ji15) < (a0.size : Int) := of_decide_eq_true (by (with_reducible assumption))
               have hx18 := bt_at a0 (ji15)
               replace p18 := eq_true p18
               replace q18 := eq_true q18
               go_wp2_with (first | ((with_reducible refine gate_callee (f := 45) rfl ?_); refine goesL_ (some 58) rfl rfl Tryd.func45 (by kernel_rfl) rfl #[.string a0, .int .i64 (wrap64 (a1 + 2))] rfl (by (try simp only [List.map_toArray, List.map_cons, List.map_nil]); rfl) ?_; (with_reducible refine (pack_TakeNumber.calls kj3 a0 (wrap64 (a1 + 2)) t189 t190 t191 _ A20.out).mono ?_); rintro e w' ⟨rfl, ⟨nd, rfl⟩⟩; refine ⟨_, rfl, ?_⟩))
               go_ret3
               exact ⟨by first | rfl | (simp [errW_none, errW_some] <;> rfl) | (simp only [← hji15]; first | rfl | (simp [errW_none, errW_some] <;> rfl)) | (simp [*, errW_none, errW_some] <;> rfl), pw_below_drewN HB.out _⟩
              ·rw [if_neg c23] at H
               have c23b0 : decide ((wrap64 ((a0.size : Int) - t190)) < (wrap64 ((wrap64 (t189)) + 8))) = false := decide_eq_false c23
               clear c23
               have c24b0 := eq_true (of_decide_eq_true (by (with_reducible assumption)) : 0 ≤ a1)
               by_cases c25 : a1 ≤ (wrap64 (t190 + (wrap64 (t189))))
               ·rw [if_pos c25] at H
                have c25b0 := eq_true c25
                have c25b1 : decide (a1 ≤ (wrap64 (t190 + (wrap64 (t189))))) = true := decide_eq_true c25
                by_cases c26 : (wrap64 (t190 + (wrap64 (t189)))) ≤ (a0.size : Int)
                ·rw [if_pos c26] at H
                 have c26b0 := eq_true c26
                 have c26b1 : decide ((wrap64 (t190 + (wrap64 (t189)))) ≤ (a0.size : Int)) = true := decide_eq_true c26
                 obtain ⟨y192, hy192⟩ : ∃ y_ : List ByteArray, y_ = (([a0.extract (a1 : Int).toNat ((wrap64 (t190 + (wrap64 (t189)))) : Int).toNat] : List ByteArray)) := ⟨_, rfl⟩
                 replace H : ((seal_Sum.f y192).bind fun t195 => ((seal_eight.f t195).bind fun t196 => (if 0 ≤ (wrap64 (t190 + (wrap64 (t189)))) then (if (wrap64 (t190 + (wrap64 (t189)))) ≤ (wrap64 ((wrap64 (t190 + (wrap64 (t189)))) + 8)) then (if (wrap64 ((wrap64 (t190 + (wrap64 (t189)))) + 8)) ≤ (a0.size : Int) then (if t196.toList = (a0.extract ((wrap64 (t190 + (wrap64 (t189)))) : Int).toNat ((wrap64 ((wrap64 (t190 + (wrap64 (t189)))) + 8)) : Int).toNat).toList then (if 0 ≤ t190 then (if t190 ≤ (wrap64 (t190 + (wrap64 (t189)))) then (some (a0.extract (t190 : Int).toNat ((wrap64 (t190 + (wrap64 (t189)))) : Int).toNat, wrap64 ((wrap64 (t190 + (wrap64 (t189)))) + 8), 0)) else (none)) else (none)) else (some ((⟨#[]⟩ : ByteArray), 0, 22))) else (none)) else (none)) else (none)))) = some (r1, r2, r3) := by (rw [hy192]; with_reducible exact H)
                 have Ny192 := Aside0.mk hy192
                 clear hy192
                 obtain ⟨t195, A270, H⟩ := Option.bind_eq_some_iff.mp H
                 try dsimp only at H
                 have A27 := Aside0.mk A270
                 clear A270
                 obtain ⟨t196, A280, H⟩ := Option.bind_eq_some_iff.mp H
                 try dsimp only at H
                 have A28 := Aside0.mk A280
                 clear A280
                 obtain ⟨ji29, hji29⟩ : ∃ j_ : Int, (wrap64 (t190 + (wrap64 (t189)))) = j_ := ⟨_, rfl⟩
                 replace H : (if 0 ≤ (ji29) then (if (ji29) ≤ (wrap64 ((ji29) + 8)) then (if (wrap64 ((ji29) + 8)) ≤ (a0.size : Int) then (if t196.toList = (a0.extract ((ji29) : Int).toNat ((wrap64 ((ji29) + 8)) : Int).toNat).toList then (if 0 ≤ t190 then (if t190 ≤ (ji29) then (some (a0.extract (t190 : Int).toNat ((ji29) : Int).toNat, wrap64 ((ji29) + 8), 0)) else (none)) else (none)) else (some ((⟨#[]⟩ : ByteArray), 0, 22))) else (none)) else (none)) else (none)) = some (r1, r2, r3) := by (rw [hji29] at H; exact H)
                 (try rw [hji29] at c25b0)
                 (try rw [hji29] at c25b1)
                 (try rw [hji29] at c25)
                 (try rw [hji29] at c26b0)
                 (try rw [hji29] at c26b1)
                 (try rw [hji29] at c26)
                 (try rw [hji29] at A20)
                 (try rw [hji29] at Ny192)
                 (try rw [hji29] at A27)
                 (try rw [hji29] at A28)
                 have hji29w : (IntKind.i64.wrap (t190 + (wrap64 (t189)))) = ji29 := (i64_w _).trans hji29
                 by_cases c30 : 0 ≤ (ji29)
                 ·rw [if_pos c30] at H
                  have c30b0 := eq_true c30
                  have c30b1 : decide (0 ≤ (ji29)) = true := decide_eq_true c30
                  clear c30
                  by_cases c31 : (ji29) ≤ (wrap64 ((ji29) + 8))
                  ·rw [if_pos c31] at H
                   have c31b0 := eq_true c31
                   have c31b1 : decide ((ji29) ≤ (wrap64 ((ji29) + 8))) = true := decide_eq_true c31
                   by_cases c32 : (wrap64 ((ji29) + 8)) ≤ (a0.size : Int)
                   ·rw [if_pos c32] at H
                    have c32b0 := eq_true c32
                    have c32b1 : decide ((wrap64 ((ji29) + 8)) ≤ (a0.size : Int)) = true := decide_eq_true c32
                    by_cases c33 : t196.toList = (a0.extract ((ji29) : Int).toNat ((wrap64 ((ji29) + 8)) : Int).toNat).toList
                    ·rw [if_pos c33] at H
                     have c33b0 : (t196.toList == (a0.extract ((ji29) : Int).toNat ((wrap64 ((ji29) + 8)) : Int).toNat).toList) = true := beq_iff_eq.mpr c33
                     have c33b1 : (t196.toList != (a0.extract ((ji29) : Int).toNat ((wrap64 ((ji29) + 8)) : Int).toNat).toList) = false := bne_eq_false_iff_eq.mpr c33
                     clear c33
                     by_cases c34 : 0 ≤ t190
                     ·rw [if_pos c34] at H
                      have c34b0 := eq_true c34
                      have c34b1 : decide (0 ≤ t190) = true := decide_eq_true c34
                      clear c34
                      by_cases c35 : t190 ≤ (ji29)
                      ·rw [if_pos c35] at H
                       have c35b0 := eq_true c35
                       have c35b1 : decide (t190 ≤ (ji29)) = true := decide_eq_true c35
                       clear c35
                       have c36b0 := eq_true (of_decide_eq_true (by (with_reducible assumption)) : (ji29) ≤ (a0.size : Int))
                       simp only [Option.some.injEq, Prod.mk.injEq] at H
                       obtain ⟨rfl, rfl, rfl⟩ := H
                       have p12 : 0 ≤ (a1 : Int) := of_decide_eq_true (by (with_reducible assumption))
                       have q12 : a1 < (a0.size : Int) := of_decide_eq_true (by (with_reducible assumption))
                       have hx12 := bt_at a0 a1
                       replace p12 := eq_true p12
                       replace q12 := eq_true q12
                       have p18 : 0 ≤ ((ji15) : Int) := of_decide_eq_true (by (with_reducible assumption))
                       have q18 : (ji15) < (a0.size : Int) := of_decide_eq_true (by (with_reducible assumption))
                       have hx18 := bt_at a0 (ji15)
                       replace p18 := eq_true p18
                       replace q18 := eq_true q18
                       try go_wp2_with (first | ((with_reducible refine gate_callee (f := 45) rfl ?_); refine goesL_ (some 58) rfl rfl Tryd.func45 (by kernel_rfl) rfl #[.string a0, .int .i64 (wrap64 (a1 + 2))] rfl (by (try simp only [List.map_toArray, List.map_cons, List.map_nil]); rfl) ?_; (with_reducible refine (pack_TakeNumber.calls kj3 a0 (wrap64 (a1 + 2)) t189 t190 t191 _ A20.out).mono ?_); rintro e w' ⟨rfl, ⟨nd, rfl⟩⟩; refine ⟨_, rfl, ?_⟩))
                       (try (rw [drewN_self wc]; generalize hq_ : World.drewN wc _ = wc; have n0_ : Aside0 (Below w.heap.size w wc) := ⟨by rw [← hq_]; exact (pw_below_drewN HB.out _)⟩; clear HB hq_; have HB := n0_; clear n0_))
                       have n0_ := Aside0.mk (below_drew1 HB.out)
                       clear HB
                       have HB := n0_
                       clear n0_
                       refine start_ (n := 13) (S := fun w' => True) (ds := []) #[false, false, false, false, false, false, false, false, false, false, false, false, false] (by kernel_rfl) rfl rfl trivial (fun hHeld => ?_); refine with_tabW seal_Open.tab19 seal_Open.bits19 (fun HT_ HW_ => ?_)
                       generalize wc.drew = w37 at HB hHeld ⊢
                       refine pure_ (i := 0) (N := some 82) (v := ?_) (a' := ?_) #[true, false, false, false, false, false, false, false, false, false, false, false, false] rfl rfl (any_of HT_.out (by kernel_rfl)) (fun _ _ _ h => h) (Or.inl ⟨by rfl, ?_⟩) ?_ ?_
                       rotate_left
                       ·intro w'
                        go_simp
                        with_reducible rfl
                       rotate_left
                       ·simp only [Act.put, List.setIfInBounds_toArray, List.set_cons_zero, List.set_cons_succ, i64_w, i32_w]
                        rfl
                       refine pure_ (i := 1) (N := some 83) (v := ?_) (a' := ?_) #[true, true, false, false, false, false, false, false, false, false, false, false, false] rfl rfl (any_of HT_.out (by kernel_rfl)) (fun _ _ _ h => h) (Or.inl ⟨by rfl, ?_⟩) ?_ ?_
                       rotate_left
                       ·intro w'
                        go_simp
                        with_reducible rfl
                       rotate_left
                       ·simp only [Act.put, List.setIfInBounds_toArray, List.set_cons_zero, List.set_cons_succ, i64_w, i32_w]
                        rfl
                       refine pure_ (i := 2) (N := some 84) (v := ?_) (a' := ?_) #[true, true, true, false, false, false, false, false, false, false, false, false, false] rfl rfl (any_of HT_.out (by kernel_rfl)) (fun _ _ _ h => h) (Or.inl ⟨by rfl, ?_⟩) ?_ ?_
                       rotate_left
                       ·intro w'
                        go_simp
                        with_reducible rfl
                       rotate_left
                       ·simp only [Act.put, List.setIfInBounds_toArray, List.set_cons_zero, List.set_cons_succ, i64_w, i32_w]
                        rfl
                       refine pure_ (i := 3) (N := some 85) (v := ?_) (a' := ?_) #[true, true, true, true, false, false, false, false, false, false, false, false, false] rfl rfl (any_of HT_.out (by kernel_rfl)) (fun _ _ _ h => h) (Or.inl ⟨by rfl, ?_⟩) ?_ ?_
                       rotate_left
                       ·intro w'
                        go_simp
                        with_reducible rfl
                       rotate_left
                       ·simp only [Act.put, List.setIfInBounds_toArray, List.set_cons_zero, List.set_cons_succ, i64_w, i32_w]
                        rfl
                       refine pure_ (i := 7) (N := some 89) (v := ?_) (a' := ?_) #[true, true, true, true, false, false, false, true, false, false, false, false, false] rfl rfl (any_of HT_.out (by kernel_rfl)) (fun _ _ _ h => h) (Or.inl ⟨by rfl, ?_⟩) ?_ ?_
                       rotate_left
                       ·intro w'
                        go_simp
                        with_reducible rfl
                       rotate_left
                       ·simp only [Act.put, List.setIfInBounds_toArray, List.set_cons_zero, List.set_cons_succ, i64_w, i32_w]
                        rfl
                       refine pure_ (i := 8) (N := some 90) (v := ?_) (a' := ?_) #[true, true, true, true, false, false, false, true, true, false, false, false, false] rfl rfl (any_of HT_.out (by kernel_rfl)) (fun _ _ _ h => h) (Or.inl ⟨by rfl, ?_⟩) ?_ ?_
                       rotate_left
                       ·intro w'
                        go_simp
                        with_reducible rfl
                       rotate_left
                       ·simp only [Act.put, List.setIfInBounds_toArray, List.set_cons_zero, List.set_cons_succ, i64_w, i32_w]
                        rfl
                       refine pure_ (i := 9) (N := some 91) (v := ?_) (a' := ?_) #[true, true, true, true, false, false, false, true, true, true, false, false, false] rfl rfl (any_of HT_.out (by kernel_rfl)) (fun _ _ _ h => h) (Or.inl ⟨by rfl, ?_⟩) ?_ ?_
                       rotate_left
                       ·intro w'
                        go_simp
                        with_reducible rfl
                       rotate_left
                       ·simp only [Act.put, List.setIfInBounds_toArray, List.set_cons_zero, List.set_cons_succ, i64_w, i32_w]
                        rfl
                       refine pure_ (i := 10) (N := some 92) (v := ?_) (a' := ?_) #[true, true, true, true, false, false, false, true, true, true, true, false, false] rfl rfl (any_of HT_.out (by kernel_rfl)) (fun _ _ _ h => h) (Or.inl ⟨by rfl, ?_⟩) ?_ ?_
                       rotate_left
                       ·intro w'
                        go_simp
                        with_reducible rfl
                       rotate_left
                       ·simp only [Act.put, List.setIfInBounds_toArray, List.set_cons_zero, List.set_cons_succ, i64_w, i32_w]
                        rfl
                       refine pure_ (i := 11) (N := some 93) (v := ?_) (a' := ?_) #[true, true, true, true, false, false, false, true, true, true, true, true, false] rfl rfl (any_of HT_.out (by kernel_rfl)) (fun _ _ _ h => h) (Or.inl ⟨by rfl, ?_⟩) ?_ ?_
                       rotate_left
                       ·intro w'
                        go_simp
                        with_reducible rfl
                       rotate_left
                       ·simp only [Act.put, List.setIfInBounds_toArray, List.set_cons_zero, List.set_cons_succ, i64_w, i32_w]
                        rfl
                       refine one_ (i := 4) (N := some 86) #[true, true, true, true, true, false, false, true, true, true, true, true, false] rfl rfl (one_of HT_.out (by kernel_rfl)) (by decide) (fun K hK => ?_)
                       refine Kd.R_lit_step Kd.string _ 9 ?hg (N := 86) ?hd (xs := ([a0.extract (a1 : Int).toNat ((ji29) : Int).toNat] : List ByteArray)) (inner := [.string (a0.extract (a1 : Int).toNat ((ji29) : Int).toNat)]) (ok := fun _ => True) (okp := fun _ => True) ?hr ?hp (fun _ hk => hk) trivial (Below.refl _ _) (Nat.le_refl _) (by simp) ?_; (case hd => rfl); (case hg => rfl); (case hr => (go_simp; done)); (case hp => exact (Reps.one (show Kd.M Kd.string _ _ _ (a0.extract (a1 : Int).toNat ((ji29) : Int).toNat) [.string (a0.extract (a1 : Int).toNat ((ji29) : Int).toNat)] from rfl) (Reps.none _ _)))
                       intro v193 w38 ho39 hb hg_ hnew_
                       clear hg_ hnew_
                       (rw [← Ny192.out] at ho39)
                       have n0_ := Aside0.mk (Kd.R_lower ho39 (below_size (HB.out)))
                       have n1_ := Aside0.mk (below_step (HB.out) hb)
                       clear HB
                       have HO194 := n0_
                       have HB := n1_
                       clear n0_ n1_
                       clear hb ho39
                       obtain ⟨Ao40, co40, eo40⟩ := Kd.R_slice HO194.out
                       (subst eo40)
                       refine hK.out _ _ trivial (fun hHeld => ?_)
                       clear hK K
                       refine norm_ (a' := ?_) ?_ ?_
                       rotate_left
                       ·show Act.put _ (some 86) _ = _
                        simp only [Act.put, List.setIfInBounds_toArray, List.set_cons_zero, List.set_cons_succ, i64_w, i32_w]
                        rfl
                       refine one_ (i := 5) (N := some 87) #[true, true, true, true, true, true, false, true, true, true, true, true, false] rfl rfl (one_of HT_.out (by kernel_rfl)) (by decide) (fun K hK => ?_)
                       refine goes_ Tryd.func44 (by kernel_rfl) rfl #[.slice Ao40 y192.length co40] (by rfl) rfl rfl (by (try simp only [List.map_toArray, List.map_cons, List.map_nil]); rfl) ?_
                       with_reducible refine (seal_Sum.calls _ _ y192 t195 _ ?side1 ?side2 A27.out).mono ?_
                       (case side1 => exact (Kd.R_reads' HO194.out).2.2)
                       (case side2 => exact (Kd.R_reads' HO194.out).2.1)
                       rintro e w41 ⟨rfl, hb⟩
                       refine ⟨_, rfl, ?_⟩
                       have n0_ := Aside0.mk (Kd.R_below (by exact HO194.out) hb)
                       have n1_ := Aside0.mk (below_step (HB.out) hb)
                       clear HO194 HB
                       have HO194 := n0_
                       have HB := n1_
                       clear n0_ n1_
                       clear hb
                       refine hK.out _ _ trivial (fun hHeld => ?_)
                       clear hK K
                       refine norm_ (a' := ?_) ?_ ?_
                       rotate_left
                       ·show Act.put _ (some 87) _ = _
                        simp only [Act.put, List.setIfInBounds_toArray, List.set_cons_zero, List.set_cons_succ, i64_w, i32_w]
                        rfl
                       refine one_ (i := 6) (N := some 88) #[true, true, true, true, true, true, true, true, true, true, true, true, false] rfl rfl (one_of HT_.out (by kernel_rfl)) (by decide) (fun K hK => ?_)
                       refine goes_ Tryd.func43 (by kernel_rfl) rfl #[.int .u64 t195] (by rfl) rfl rfl (by (try simp only [List.map_toArray, List.map_cons, List.map_nil]); rfl) ?_
                       with_reducible refine (seal_eight.calls t195 t196 _ A28.out).mono ?_
                       rintro e w42 ⟨rfl, hb⟩
                       refine ⟨_, rfl, ?_⟩
                       have n0_ := Aside0.mk (Kd.R_below (by exact HO194.out) hb)
                       have n1_ := Aside0.mk (below_step (HB.out) hb)
                       clear HO194 HB
                       have HO194 := n0_
                       have HB := n1_
                       clear n0_ n1_
                       clear hb
                       refine hK.out _ _ trivial (fun hHeld => ?_)
                       clear hK K
                       refine norm_ (a' := ?_) ?_ ?_
                       rotate_left
                       ·show Act.put _ (some 88) _ = _
                        simp only [Act.put, List.setIfInBounds_toArray, List.set_cons_zero, List.set_cons_succ, i64_w, i32_w]
                        rfl
                       refine pure_ (i := 12) (N := some 94) (v := ?_) (a' := ?_) #[true, true, true, true, true, true, true, true, true, true, true, true, true] rfl rfl (any_of HT_.out (by kernel_rfl)) (fun _ _ _ h => h) (Or.inl ⟨by rfl, ?_⟩) ?_ ?_
                       rotate_left
                       ·intro w'
                        go_simp
                        with_reducible rfl
                       rotate_left
                       ·simp only [Act.put, List.setIfInBounds_toArray, List.set_cons_zero, List.set_cons_succ, i64_w, i32_w]
                        rfl
                       refine done_ (done_of HT_.out (by kernel_rfl)) ?_
                       try go_wp2
                       go_ret3
                       exact ⟨by first | rfl | (simp [errW_none, errW_some] <;> rfl) | (simp only [← hji15, ← hji29]; first | rfl | (simp [errW_none, errW_some] <;> rfl)) | (simp [*, errW_none, errW_some] <;> rfl), HB.out⟩
                      ·rw [if_neg c35] at H
                       exact absurd H (by simp)
                     ·rw [if_neg c34] at H
                      exact absurd H (by simp)
                    ·rw [if_neg c33] at H
                     have c33b0 : (t196.toList == (a0.extract ((ji29) : Int).toNat ((wrap64 ((ji29) + 8)) : Int).toNat).toList) = false := beq_eq_false_iff_ne.mpr c33
                     have c33b1 : (t196.toList != (a0.extract ((ji29) : Int).toNat ((wrap64 ((ji29) + 8)) : Int).toNat).toList) = true := bne_iff_ne.mpr c33
                     simp only [Option.some.injEq, Prod.mk.injEq] at H
                     obtain ⟨rfl, rfl, rfl⟩ := H
                     have p12 : 0 ≤ (a1 : Int) := of_decide_eq_true (by (with_reducible assumption))
                     have q12 : a1 < (a0.size : Int) := of_decide_eq_true (by (with_reducible assumption))
                     have hx12 := bt_at a0 a1
                     replace p12 := eq_true p12
                     replace q12 := eq_true q12
                     have p18 : 0 ≤ ((ji15) : Int) := of_decide_eq_true (by (with_reducible assumption))
                     have q18 : (ji15) < (a0.size : Int) := of_decide_eq_true (by (with_reducible assumption))
                     have hx18 := bt_at a0 (ji15)
                     replace p18 := eq_true p18
                     replace q18 := eq_true q18
                     try go_wp2_with (first | ((with_reducible refine gate_callee (f := 45) rfl ?_); refine goesL_ (some 58) rfl rfl Tryd.func45 (by kernel_rfl) rfl #[.string a0, .int .i64 (wrap64 (a1 + 2))] rfl (by (try simp only [List.map_toArray, List.map_cons, List.map_nil]); rfl) ?_; (with_reducible refine (pack_TakeNumber.calls kj3 a0 (wrap64 (a1 + 2)) t189 t190 t191 _ A20.out).mono ?_); rintro e w' ⟨rfl, ⟨nd, rfl⟩⟩; refine ⟨_, rfl, ?_⟩))
                     (try (rw [drewN_self wc]; generalize hq_ : World.drewN wc _ = wc; have n0_ : Aside0 (Below w.heap.size w wc) := ⟨by rw [← hq_]; exact (pw_below_drewN HB.out _)⟩; clear HB hq_; have HB := n0_; clear n0_))
                     have n0_ := Aside0.mk (below_drew1 HB.out)
                     clear HB
                     have HB := n0_
                     clear n0_
                     refine start_ (n := 13) (S := fun w' => True) (ds := []) #[false, false, false, false, false, false, false, false, false, false, false, false, false] (by kernel_rfl) rfl rfl trivial (fun hHeld => ?_); refine with_tabW seal_Open.tab19 seal_Open.bits19 (fun HT_ HW_ => ?_)
                     generalize wc.drew = w43 at HB hHeld ⊢
                     refine pure_ (i := 0) (N := some 82) (v := ?_) (a' := ?_) #[true, false, false, false, false, false, false, false, false, false, false, false, false] rfl rfl (any_of HT_.out (by kernel_rfl)) (fun _ _ _ h => h) (Or.inl ⟨by rfl, ?_⟩) ?_ ?_
                     rotate_left
                     ·intro w'
                      go_simp
                      with_reducible rfl
                     rotate_left
                     ·simp only [Act.put, List.setIfInBounds_toArray, List.set_cons_zero, List.set_cons_succ, i64_w, i32_w]
                      rfl
                     refine pure_ (i := 1) (N := some 83) (v := ?_) (a' := ?_) #[true, true, false, false, false, false, false, false, false, false, false, false, false] rfl rfl (any_of HT_.out (by kernel_rfl)) (fun _ _ _ h => h) (Or.inl ⟨by rfl, ?_⟩) ?_ ?_
                     rotate_left
                     ·intro w'
                      go_simp
                      with_reducible rfl
                     rotate_left
                     ·simp only [Act.put, List.setIfInBounds_toArray, List.set_cons_zero, List.set_cons_succ, i64_w, i32_w]
                      rfl
                     refine pure_ (i := 2) (N := some 84) (v := ?_) (a' := ?_) #[true, true, true, false, false, false, false, false, false, false, false, false, false] rfl rfl (any_of HT_.out (by kernel_rfl)) (fun _ _ _ h => h) (Or.inl ⟨by rfl, ?_⟩) ?_ ?_
                     rotate_left
                     ·intro w'
                      go_simp
                      with_reducible rfl
                     rotate_left
                     ·simp only [Act.put, List.setIfInBounds_toArray, List.set_cons_zero, List.set_cons_succ, i64_w, i32_w]
                      rfl
                     refine pure_ (i := 3) (N := some 85) (v := ?_) (a' := ?_) #[true, true, true, true, false, false, false, false, false, false, false, false, false] rfl rfl (any_of HT_.out (by kernel_rfl)) (fun _ _ _ h => h) (Or.inl ⟨by rfl, ?_⟩) ?_ ?_
                     rotate_left
                     ·intro w'
                      go_simp
                      with_reducible rfl
                     rotate_left
                     ·simp only [Act.put, List.setIfInBounds_toArray, List.set_cons_zero, List.set_cons_succ, i64_w, i32_w]
                      rfl
                     refine pure_ (i := 7) (N := some 89) (v := ?_) (a' := ?_) #[true, true, true, true, false, false, false, true, false, false, false, false, false] rfl rfl (any_of HT_.out (by kernel_rfl)) (fun _ _ _ h => h) (Or.inl ⟨by rfl, ?_⟩) ?_ ?_
                     rotate_left
                     ·intro w'
                      go_simp
                      with_reducible rfl
                     rotate_left
                     ·simp only [Act.put, List.setIfInBounds_toArray, List.set_cons_zero, List.set_cons_succ, i64_w, i32_w]
                      rfl
                     refine pure_ (i := 8) (N := some 90) (v := ?_) (a' := ?_) #[true, true, true, true, false, false, false, true, true, false, false, false, false] rfl rfl (any_of HT_.out (by kernel_rfl)) (fun _ _ _ h => h) (Or.inl ⟨by rfl, ?_⟩) ?_ ?_
                     rotate_left
                     ·intro w'
                      go_simp
                      with_reducible rfl
                     rotate_left
                     ·simp only [Act.put, List.setIfInBounds_toArray, List.set_cons_zero, List.set_cons_succ, i64_w, i32_w]
                      rfl
                     refine pure_ (i := 9) (N := some 91) (v := ?_) (a' := ?_) #[true, true, true, true, false, false, false, true, true, true, false, false, false] rfl rfl (any_of HT_.out (by kernel_rfl)) (fun _ _ _ h => h) (Or.inl ⟨by rfl, ?_⟩) ?_ ?_
                     rotate_left
                     ·intro w'
                      go_simp
                      with_reducible rfl
                     rotate_left
                     ·simp only [Act.put, List.setIfInBounds_toArray, List.set_cons_zero, List.set_cons_succ, i64_w, i32_w]
                      rfl
                     refine pure_ (i := 10) (N := some 92) (v := ?_) (a' := ?_) #[true, true, true, true, false, false, false, true, true, true, true, false, false] rfl rfl (any_of HT_.out (by kernel_rfl)) (fun _ _ _ h => h) (Or.inl ⟨by rfl, ?_⟩) ?_ ?_
                     rotate_left
                     ·intro w'
                      go_simp
                      with_reducible rfl
                     rotate_left
                     ·simp only [Act.put, List.setIfInBounds_toArray, List.set_cons_zero, List.set_cons_succ, i64_w, i32_w]
                      rfl
                     refine pure_ (i := 11) (N := some 93) (v := ?_) (a' := ?_) #[true, true, true, true, false, false, false, true, true, true, true, true, false] rfl rfl (any_of HT_.out (by kernel_rfl)) (fun _ _ _ h => h) (Or.inl ⟨by rfl, ?_⟩) ?_ ?_
                     rotate_left
                     ·intro w'
                      go_simp
                      with_reducible rfl
                     rotate_left
                     ·simp only [Act.put, List.setIfInBounds_toArray, List.set_cons_zero, List.set_cons_succ, i64_w, i32_w]
                      rfl
                     refine one_ (i := 4) (N := some 86) #[true, true, true, true, true, false, false, true, true, true, true, true, false] rfl rfl (one_of HT_.out (by kernel_rfl)) (by decide) (fun K hK => ?_)
                     refine Kd.R_lit_step Kd.string _ 9 ?hg (N := 86) ?hd (xs := ([a0.extract (a1 : Int).toNat ((ji29) : Int).toNat] : List ByteArray)) (inner := [.string (a0.extract (a1 : Int).toNat ((ji29) : Int).toNat)]) (ok := fun _ => True) (okp := fun _ => True) ?hr ?hp (fun _ hk => hk) trivial (Below.refl _ _) (Nat.le_refl _) (by simp) ?_; (case hd => rfl); (case hg => rfl); (case hr => (go_simp; done)); (case hp => exact (Reps.one (show Kd.M Kd.string _ _ _ (a0.extract (a1 : Int).toNat ((ji29) : Int).toNat) [.string (a0.extract (a1 : Int).toNat ((ji29) : Int).toNat)] from rfl) (Reps.none _ _)))
                     intro v193 w44 ho45 hb hg_ hnew_
                     clear hg_ hnew_
                     (rw [← Ny192.out] at ho45)
                     have n0_ := Aside0.mk (Kd.R_lower ho45 (below_size (HB.out)))
                     have n1_ := Aside0.mk (below_step (HB.out) hb)
                     clear HB
                     have HO194 := n0_
                     have HB := n1_
                     clear n0_ n1_
                     clear hb ho45
                     obtain ⟨Ao46, co46, eo46⟩ := Kd.R_slice HO194.out
                     (subst eo46)
                     refine hK.out _ _ trivial (fun hHeld => ?_)
                     clear hK K
                     refine norm_ (a' := ?_) ?_ ?_
                     rotate_left
                     ·show Act.put _ (some 86) _ = _
                      simp only [Act.put, List.setIfInBounds_toArray, List.set_cons_zero, List.set_cons_succ, i64_w, i32_w]
                      rfl
                     refine one_ (i := 5) (N := some 87) #[true, true, true, true, true, true, false, true, true, true, true, true, false] rfl rfl (one_of HT_.out (by kernel_rfl)) (by decide) (fun K hK => ?_)
                     refine goes_ Tryd.func44 (by kernel_rfl) rfl #[.slice Ao46 y192.length co46] (by rfl) rfl rfl (by (try simp only [List.map_toArray, List.map_cons, List.map_nil]); rfl) ?_
                     with_reducible refine (seal_Sum.calls _ _ y192 t195 _ ?side1 ?side2 A27.out).mono ?_
                     (case side1 => exact (Kd.R_reads' HO194.out).2.2)
                     (case side2 => exact (Kd.R_reads' HO194.out).2.1)
                     rintro e w47 ⟨rfl, hb⟩
                     refine ⟨_, rfl, ?_⟩
                     have n0_ := Aside0.mk (Kd.R_below (by exact HO194.out) hb)
                     have n1_ := Aside0.mk (below_step (HB.out) hb)
                     clear HO194 HB
                     have HO194 := n0_
                     have HB := n1_
                     clear n0_ n1_
                     clear hb
                     refine hK.out _ _ trivial (fun hHeld => ?_)
                     clear hK K
                     refine norm_ (a' := ?_) ?_ ?_
                     rotate_left
                     ·show Act.put _ (some 87) _ = _
                      simp only [Act.put, List.setIfInBounds_toArray, List.set_cons_zero, List.set_cons_succ, i64_w, i32_w]
                      rfl
                     refine one_ (i := 6) (N := some 88) #[true, true, true, true, true, true, true, true, true, true, true, true, false] rfl rfl (one_of HT_.out (by kernel_rfl)) (by decide) (fun K hK => ?_)
                     refine goes_ Tryd.func43 (by kernel_rfl) rfl #[.int .u64 t195] (by rfl) rfl rfl (by (try simp only [List.map_toArray, List.map_cons, List.map_nil]); rfl) ?_
                     with_reducible refine (seal_eight.calls t195 t196 _ A28.out).mono ?_
                     rintro e w48 ⟨rfl, hb⟩
                     refine ⟨_, rfl, ?_⟩
                     have n0_ := Aside0.mk (Kd.R_below (by exact HO194.out) hb)
                     have n1_ := Aside0.mk (below_step (HB.out) hb)
                     clear HO194 HB
                     have HO194 := n0_
                     have HB := n1_
                     clear n0_ n1_
                     clear hb
                     refine hK.out _ _ trivial (fun hHeld => ?_)
                     clear hK K
                     refine norm_ (a' := ?_) ?_ ?_
                     rotate_left
                     ·show Act.put _ (some 88) _ = _
                      simp only [Act.put, List.setIfInBounds_toArray, List.set_cons_zero, List.set_cons_succ, i64_w, i32_w]
                      rfl
                     refine pure_ (i := 12) (N := some 94) (v := ?_) (a' := ?_) #[true, true, true, true, true, true, true, true, true, true, true, true, true] rfl rfl (any_of HT_.out (by kernel_rfl)) (fun _ _ _ h => h) (Or.inl ⟨by rfl, ?_⟩) ?_ ?_
                     rotate_left
                     ·intro w'
                      go_simp
                      with_reducible rfl
                     rotate_left
                     ·simp only [Act.put, List.setIfInBounds_toArray, List.set_cons_zero, List.set_cons_succ, i64_w, i32_w]
                      rfl
                     refine done_ (done_of HT_.out (by kernel_rfl)) ?_
                     try go_wp2
                     go_ret3
                     exact ⟨by first | rfl | (simp [errW_none, errW_some] <;> rfl) | (simp only [← hji15, ← hji29]; first | rfl | (simp [errW_none, errW_some] <;> rfl)) | (simp [*, errW_none, errW_some] <;> rfl), HB.out⟩
                   ·rw [if_neg c32] at H
                    exact absurd H (by simp)
                  ·rw [if_neg c31] at H
                   exact absurd H (by simp)
                 ·rw [if_neg c30] at H
                  exact absurd H (by simp)
                ·rw [if_neg c26] at H
                 exact absurd H (by simp)
               ·rw [if_neg c25] at H
                exact absurd H (by simp)
            ·rw [if_neg c21] at H
             have c21b0 : (t191 == 0) = false := beq_eq_false_iff_ne.mpr c21
             have c21b1 : (t191 != 0) = true := bne_iff_ne.mpr c21
             simp only [Option.some.injEq, Prod.mk.injEq] at H
             obtain ⟨rfl, rfl, rfl⟩ := H
             have p12 : 0 ≤ (a1 : Int) := of_decide_eq_true (by (with_reducible assumption))
             have q12 : a1 < (a0.size : Int) := of_decide_eq_true (by (with_reducible assumption))
             have hx12 := bt_at a0 a1
             replace p12 := eq_true p12
             replace q12 := eq_true q12
             have p18 : 0 ≤ ((ji15) : Int) := of_decide_eq_true (by (with_reducible assumption))
             have q18 : (ji15) < (a0.size : Int) := of_decide_eq_true (by (with_reducible assumption))
             have hx18 := bt_at a0 (ji15)
             replace p18 := eq_true p18
             replace q18 := eq_true q18
             go_wp2_with (first | ((with_reducible refine gate_callee (f := 45) rfl ?_); refine goesL_ (some 58) rfl rfl Tryd.func45 (by kernel_rfl) rfl #[.string a0, .int .i64 (wrap64 (a1 + 2))] rfl (by (try simp only [List.map_toArray, List.map_cons, List.map_nil]); rfl) ?_; (with_reducible refine (pack_TakeNumber.calls kj3 a0 (wrap64 (a1 + 2)) t189 t190 t191 _ A20.out).mono ?_); rintro e w' ⟨rfl, ⟨nd, rfl⟩⟩; refine ⟨_, rfl, ?_⟩))
             go_ret3
             exact ⟨by first | rfl | (simp [errW_none, errW_some] <;> rfl) | (simp only [← hji15]; first | rfl | (simp [errW_none, errW_some] <;> rfl)) | (simp [*, errW_none, errW_some] <;> rfl), pw_below_drewN HB.out _⟩
           ·rw [if_neg c19] at H
            have c19b0 : ((wrap64 (bt a0 (ji15))) == a2) = false := beq_eq_false_iff_ne.mpr c19
            have c19b1 : ((wrap64 (bt a0 (ji15))) != a2) = true := bne_iff_ne.mpr c19
            simp only [Option.some.injEq, Prod.mk.injEq] at H
            obtain ⟨rfl, rfl, rfl⟩ := H
            have p12 : 0 ≤ (a1 : Int) := of_decide_eq_true (by (with_reducible assumption))
            have q12 : a1 < (a0.size : Int) := of_decide_eq_true (by (with_reducible assumption))
            have hx12 := bt_at a0 a1
            replace p12 := eq_true p12
            replace q12 := eq_true q12
            have p18 : 0 ≤ ((ji15) : Int) := of_decide_eq_true (by (with_reducible assumption))
            have q18 : (ji15) < (a0.size : Int) := of_decide_eq_true (by (with_reducible assumption))
            have hx18 := bt_at a0 (ji15)
            replace p18 := eq_true p18
            replace q18 := eq_true q18
            go_wp2
            go_ret3
            exact ⟨by first | rfl | (simp [errW_none, errW_some] <;> rfl) | (simp only [← hji15]; first | rfl | (simp [errW_none, errW_some] <;> rfl)) | (simp [*, errW_none, errW_some] <;> rfl), HB.out⟩
          ·rw [if_neg c17] at H
           exact absurd H (by simp)
         ·rw [if_neg c16] at H
          exact absurd H (by simp)
       ·rw [if_neg c13] at H
        have c13b0 : ((bt a0 a1) == 231) = false := beq_eq_false_iff_ne.mpr c13
        have c13b1 : ((bt a0 a1) != 231) = true := bne_iff_ne.mpr c13
        simp only [Option.some.injEq, Prod.mk.injEq] at H
        obtain ⟨rfl, rfl, rfl⟩ := H
        have p12 : 0 ≤ (a1 : Int) := of_decide_eq_true (by (with_reducible assumption))
        have q12 : a1 < (a0.size : Int) := of_decide_eq_true (by (with_reducible assumption))
        have hx12 := bt_at a0 a1
        replace p12 := eq_true p12
        replace q12 := eq_true q12
        go_wp2
        go_ret3
        exact ⟨by rfl, HB.out⟩
      ·rw [if_neg c11] at H
       exact absurd H (by simp)
     ·rw [if_neg c10] at H
      exact absurd H (by simp)

/-! ### note_place_number: function 46 -/
/-- A state of type 69 at block g of W; what its slices lead to came in by w0. -/
def IsS69 (w0 W : World) (g : Nat) (f0 : ByteArray) (f1 : Int) (f2 : Bool) : Prop := W.heap[g]? = some (.cells #[.string f0, .int .i64 f1, .bool f2] 69 (0, 0)) ∧ w0.heap.size ≤ g
theorem IsS69.grown {w0 W : World} {g : Nat} {f0 : ByteArray} {f1 : Int} {f2 : Bool} {W1 : World} {row : Option Nat} (h : IsS69 w0 W g f0 f1 f2) (hw : W.grownBy W1 row) (hne : some g ≠ row) : IsS69 w0 W1 g f0 f1 f2 := by
 obtain ⟨hb, hg⟩ := h
 exact ⟨blk_grown hb hw hne, hg⟩
theorem IsS69.own_neN {w0 W : World} {g : Nat} {f0 : ByteArray} {f1 : Int} {f2 : Bool} {α : Type} {d : Kd α} {e : Nat} {base : Nat} {ok : Nat → Prop} {v : Value} {xs : List α} (h : IsS69 w0 W g f0 f1 f2) (ho : Kd.N d e W base ok v xs) (ht : e ≠ 69) : some g ≠ v.ownBlock := by
 obtain ⟨hb, hg⟩ := h
 exact Kd.N_ne ho hb ht
theorem IsS69.fresh {w0 W : World} {g : Nat} {f0 : ByteArray} {f1 : Int} {f2 : Bool} (h : IsS69 w0 W g f0 f1 f2) : ∀ k, W.heap.size ≤ k → k ≠ g := by
 obtain ⟨hb, hg⟩ := h
 exact Kd.freshB hb
theorem IsS69.kept {w0 W : World} {g : Nat} {f0 : ByteArray} {f1 : Int} {f2 : Bool} {W1 : World} {S : Nat → Prop} (h : IsS69 w0 W g f0 f1 f2) (hk : Kept W W1 S) (hne : ¬ S g) : IsS69 w0 W1 g f0 f1 f2 := by
 obtain ⟨hb, hg⟩ := h
 exact ⟨blk_kept hb hk hne, hg⟩
theorem IsS69.below {w0 W : World} {g : Nat} {f0 : ByteArray} {f1 : Int} {f2 : Bool} {W1 : World} (h : IsS69 w0 W g f0 f1 f2) (hw : Below W.heap.size W W1) : IsS69 w0 W1 g f0 f1 f2 := h.grown (grown_of_below hw none) (by simp)
theorem IsS69.alloc {w0 W : World} {g : Nat} {f0 : ByteArray} {f1 : Int} {f2 : Bool} (h : IsS69 w0 W g f0 f1 f2) (o : Obj) : IsS69 w0 (W.alloc o) g f0 f1 f2 := h.below (below_alloc (Below.refl _ _) o)
theorem IsS69.drewN {w0 W : World} {g : Nat} {f0 : ByteArray} {f1 : Int} {f2 : Bool} (h : IsS69 w0 W g f0 f1 f2) (m : Nat) : IsS69 w0 (W.drewN m) g f0 f1 f2 := h
theorem IsS69.drew {w0 W : World} {g : Nat} {f0 : ByteArray} {f1 : Int} {f2 : Bool} (h : IsS69 w0 W g f0 f1 f2) : IsS69 w0 W.drew g f0 f1 f2 := h
theorem IsS69.at_ {w0 W : World} {g : Nat} {f0 : ByteArray} {f1 : Int} {f2 : Bool} {w' : World} {m : Nat} (hq : W.drewN m = w') (h : IsS69 w0 W g f0 f1 f2) : IsS69 w0 w' g f0 f1 f2 := by subst hq; exact IsS69.drewN h m
theorem IsS69.apart {w0 W : World} {g : Nat} {f0 : ByteArray} {f1 : Int} {f2 : Bool} {α : Type} {d : Kd α} {e : Nat} {base : Nat} {ok : Nat → Prop} {v : Value} {xs : List α} (h : IsS69 w0 W g f0 f1 f2) (ho : d.R e W base ok v xs) (ht : ∀ q, q ∈ e :: d.E → q ≠ 69) : d.R e W base (fun k => ok k ∧ k ≠ g) v xs := by
 obtain ⟨hb, hg⟩ := h
 exact Kd.R_types ho hb ht
theorem IsS69.own_ne {w0 W : World} {g : Nat} {f0 : ByteArray} {f1 : Int} {f2 : Bool} {α : Type} {d : Kd α} {e : Nat} {base : Nat} {ok : Nat → Prop} {v : Value} {xs : List α} (h : IsS69 w0 W g f0 f1 f2) (ho : d.R e W base ok v xs) (ht : e ≠ 69) : some g ≠ v.ownBlock := by
 obtain ⟨hb, hg⟩ := h
 exact Kd.R_ne ho hb ht
theorem IsS69.apartQ {w0 W : World} {g : Nat} {f0 : ByteArray} {f1 : Int} {f2 : Bool} {α : Type} {d : Kd α} {e : Nat} {base : Nat} {ok : Nat → Prop} {v : Value} {xs : List α} (h : IsS69 w0 W g f0 f1 f2) (ho : d.Q e W base ok v xs) (ht : ∀ q, q ∈ e :: d.E → q ≠ 69) : d.Q e W base (fun k => ok k ∧ k ≠ g) v xs := by
 obtain ⟨hb, hg⟩ := h
 exact Kd.Q_types ho hb ht
theorem IsS69.own_neQ {w0 W : World} {g : Nat} {f0 : ByteArray} {f1 : Int} {f2 : Bool} {α : Type} {d : Kd α} {e : Nat} {base : Nat} {ok : Nat → Prop} {v : Value} {xs : List α} (h : IsS69 w0 W g f0 f1 f2) (ho : d.Q e W base ok v xs) (ht : e ≠ 69) : some g ≠ v.ownBlock := by
 obtain ⟨hb, hg⟩ := h
 exact Kd.Q_ne ho hb ht
theorem IsS69.apartS {w0 W : World} {g : Nat} {f0 : ByteArray} {f1 : Int} {f2 : Bool} {α : Type} {d : Kd α} {e : Nat} {base : Nat} {ok : Nat → Prop} {v : Value} {xs : List α} (h : IsS69 w0 W g f0 f1 f2) (ho : d.S e W base ok v xs) (ht : ∀ q, q ∈ e :: d.E → q ≠ 69) : d.S e W base (fun k => ok k ∧ k ≠ g) v xs := by
 obtain ⟨hb, hg⟩ := h
 exact Kd.S_types ho hb ht
theorem IsS69.own_neS {w0 W : World} {g : Nat} {f0 : ByteArray} {f1 : Int} {f2 : Bool} {α : Type} {d : Kd α} {e : Nat} {base : Nat} {ok : Nat → Prop} {v : Value} {xs : List α} (h : IsS69 w0 W g f0 f1 f2) (ho : d.S e W base ok v xs) (ht : e ≠ 69) : some g ≠ v.ownBlock := by
 obtain ⟨hb, hg⟩ := h
 exact Kd.S_ne ho hb ht
theorem IsS69.lt {w0 W : World} {g : Nat} {f0 : ByteArray} {f1 : Int} {f2 : Bool} (h : IsS69 w0 W g f0 f1 f2) : g < W.heap.size := by
 obtain ⟨hb, hg⟩ := h
 exact blk_lt hb
theorem IsS69.ge {w0 W : World} {g : Nat} {f0 : ByteArray} {f1 : Int} {f2 : Bool} (h : IsS69 w0 W g f0 f1 f2) : w0.heap.size ≤ g := by
 obtain ⟨hb, hg⟩ := h
 exact hg
theorem IsS69.ne_blk {w0 W : World} {g : Nat} {f0 : ByteArray} {f1 : Int} {f2 : Bool} {a : Nat} {cs : Array Value} {t : TypeId} {fr : Nat × Nat} (h : IsS69 w0 W g f0 f1 f2) (hb2 : W.heap[a]? = some (.cells cs t fr)) (ht : t ≠ 69) : g ≠ a := by
 obtain ⟨hb, hg⟩ := h
 rintro rfl
 rw [hb] at hb2
 injection hb2 with hb2
 injection hb2 with _ ht2
 exact ht ht2.symm
theorem IsS69.far {w0 W : World} {g : Nat} {f0 : ByteArray} {f1 : Int} {f2 : Bool} {p : Addr} (h : IsS69 w0 W g f0 f1 f2) (hne : g ≠ p.block) (u : Value) : IsS69 w0 (W.setCell p u) g f0 f1 f2 := by
 obtain ⟨hb, hg⟩ := h
 exact ⟨blk_far hb hne u, hg⟩
theorem cellS69_0 {W : World} {g : Nat} {f0 : ByteArray} {f1 : Int} {f2 : Bool} (h : W.heap[g]? = some (.cells #[.string f0, .int .i64 f1, .bool f2] 69 (0, 0))) : W.cell? ⟨g, 0, none⟩ = some (.string f0) := (blk_cell h 0).trans rfl
theorem IsS69.set_0 {w0 W : World} {g : Nat} {f0 : ByteArray} {f1 : Int} {f2 : Bool} (h : IsS69 w0 W g f0 f1 f2) (x : ByteArray) : IsS69 w0 (W.setCell ⟨g, 0, none⟩ (.string x)) g x f1 f2 := by
 obtain ⟨hb, hg⟩ := h
 exact ⟨by simpa using blk_set hb 0 (.string x), hg⟩
theorem cellS69_1 {W : World} {g : Nat} {f0 : ByteArray} {f1 : Int} {f2 : Bool} (h : W.heap[g]? = some (.cells #[.string f0, .int .i64 f1, .bool f2] 69 (0, 0))) : W.cell? ⟨g, 1, none⟩ = some (.int .i64 f1) := (blk_cell h 1).trans rfl
theorem IsS69.set_1 {w0 W : World} {g : Nat} {f0 : ByteArray} {f1 : Int} {f2 : Bool} (h : IsS69 w0 W g f0 f1 f2) (x : Int) : IsS69 w0 (W.setCell ⟨g, 1, none⟩ (.int .i64 x)) g f0 x f2 := by
 obtain ⟨hb, hg⟩ := h
 exact ⟨by simpa using blk_set hb 1 (.int .i64 x), hg⟩
theorem cellS69_2 {W : World} {g : Nat} {f0 : ByteArray} {f1 : Int} {f2 : Bool} (h : W.heap[g]? = some (.cells #[.string f0, .int .i64 f1, .bool f2] 69 (0, 0))) : W.cell? ⟨g, 2, none⟩ = some (.bool f2) := (blk_cell h 2).trans rfl
theorem IsS69.set_2 {w0 W : World} {g : Nat} {f0 : ByteArray} {f1 : Int} {f2 : Bool} (h : IsS69 w0 W g f0 f1 f2) (x : Bool) : IsS69 w0 (W.setCell ⟨g, 2, none⟩ (.bool x)) g f0 f1 x := by
 obtain ⟨hb, hg⟩ := h
 exact ⟨by simpa using blk_set hb 2 (.bool x), hg⟩
theorem IsS69.new (w0 W : World) (f0 : ByteArray) (f1 : Int) (f2 : Bool) (hB : Below w0.heap.size w0 W) : IsS69 w0 (W.alloc (.cells #[.string f0, .int .i64 f1, .bool f2] 69)) W.heap.size f0 f1 f2 := ⟨by simpa using heap_alloc_new W _, hB.size⟩
def note_place_number.f (k : Nat) (s0_0 : ByteArray) (s0_1 : Int) (s0_2 : Bool) : Option (Int × ByteArray × Int × Bool) := (pack_TakeNumber.f k s0_0 s0_1).bind fun bt197 => (if s0_2 = true then (some (0, s0_0, s0_1, true)) else (if bt197.2.2 = 0 then (if bt197.1 > 1000000000 then (some (0, s0_0, s0_1, true)) else (some (wrap64 (bt197.1), s0_0, bt197.2.1, s0_2))) else (some (0, s0_0, s0_1, true))))
theorem note_place_number.mono : ∀ a0 a1 a2 k, LeO (note_place_number.f k a0 a1 a2) (note_place_number.f (k + 1) a0 a1 a2) := by
 intro a0 a1 a2 k
 unfold note_place_number.f
 repeat' first
   | (with_reducible exact pack_TakeNumber.mono _ _ _)
   | (with_reducible exact LeO.refl _)
   | (with_reducible exact LeO.none _)
   | (with_reducible refine LeO.ite ?_ ?_)
   | (with_reducible refine LeO.bind ?_ (fun _ => ?_))
   | exact pack_TakeNumber.mono _ _ _
   | exact LeO.none _
   | refine LeO.ite ?_ ?_
   | refine LeO.bind ?_ (fun _ => ?_)
set_option maxHeartbeats 8000000 in
set_option maxRecDepth 100000 in
theorem note_place_number.calls (k : Nat) (g : Nat) (s0_0 : ByteArray) (s0_1 : Int) (s0_2 : Bool) (r1 : Int) (r2 : ByteArray) (r3 : Int) (r4 : Bool) (w0 w : World) (hI : IsS69 w0 w g s0_0 s0_1 s0_2) (hB : Below w0.heap.size w0 w) (h : note_place_number.f k s0_0 s0_1 s0_2 = some (r1, r2, r3, r4)) :
  Calls Tryd.prog 46 #[.pointer (some ⟨g, 0, none⟩)] w fun e w' => e = .returned (.int .i64 r1) ∧ IsS69 w0 w' g r2 r3 r4 ∧ Below w0.heap.size w0 w' ∧ KeepBut w w' g none := by
 have HI0 := Aside0.mk hI
 have HK := Aside0.mk (KeepBut.refl w g none)
 have HL := Aside0.mk hB.size
 clear hI
 have HW0 := Aside0.mk hB.size
 have HB := Aside0.mk hB
 clear hB
 have H : ((pack_TakeNumber.f k s0_0 s0_1).bind fun bt197 => (if s0_2 = true then (some (0, s0_0, s0_1, true)) else (if bt197.2.2 = 0 then (if bt197.1 > 1000000000 then (some (0, s0_0, s0_1, true)) else (some (wrap64 (bt197.1), s0_0, bt197.2.1, s0_2))) else (some (0, s0_0, s0_1, true))))) = some (r1, r2, r3, r4) := h
 clear h
 obtain ⟨⟨t197, t198, t199⟩, A20, H⟩ := Option.bind_eq_some_iff.mp H
 try dsimp only at H
 have A2 := Aside0.mk A20
 clear A20
 by_cases c3 : s0_2 = true
 ·subst c3
  have H1 : (some (0, s0_0, s0_1, true)) = some (r1, r2, r3, r4) := by rw [if_pos rfl] at H; exact H
  clear H
  have H := H1
  clear H1
  simp only [Option.some.injEq, Prod.mk.injEq] at H
  obtain ⟨rfl, rfl, rfl, rfl⟩ := H
  obtain ⟨HGz4, hgz4⟩ := HI0.out
  have hcz4_0 := cellS69_0 HGz4
  have hcz4_1 := cellS69_1 HGz4
  have hcz4_2 := cellS69_2 HGz4
  have hfz4_0 := blk_frozen HGz4 0
  have hfz4_1 := blk_frozen HGz4 1
  have hfz4_2 := blk_frozen HGz4 2
  clear HGz4 hgz4
  go_enter Tryd.func46, Tryd.ntmps46
  go_wp2_with (fail)
  repeat (go_quiet (first | (go_at_call 45; (with_reducible refine (pack_TakeNumber.calls k s0_0 s0_1 t197 t198 t199 _ A2.out).mono ?_); rintro e w' ⟨rfl, ⟨nd, rfl⟩⟩; (try exact ⟨rfl, _, World.drewN_drewN _ _ _⟩))); try go_wp2_with (fail))
  go_ret
  exact ⟨by rfl, by repeat (with_reducible first | exact HI0.out | apply IsS69.drewN | apply IsS69.set_2), by repeat (with_reducible first | exact HB.out | apply pw_below_drewN | refine below_set ?_ (IsS69.ge HI0.out)), by repeat (with_reducible first | exact HK.out | apply KeepBut.set_ | apply keep_drewN)⟩
 ·replace c3 := Bool.eq_false_iff.mpr c3
  subst c3
  have H1 : (if t199 = 0 then (if t197 > 1000000000 then (some (0, s0_0, s0_1, true)) else (some (wrap64 (t197), s0_0, t198, false))) else (some (0, s0_0, s0_1, true))) = some (r1, r2, r3, r4) := by rw [if_neg (show ¬ (false = true) by decide)] at H; exact H
  clear H
  have H := H1
  clear H1
  by_cases c5 : t199 = 0
  ·rw [if_pos c5] at H
   have c5b0 : (t199 == 0) = true := beq_iff_eq.mpr c5
   have c5b1 : (t199 != 0) = false := bne_eq_false_iff_eq.mpr c5
   clear c5
   by_cases c6 : t197 > 1000000000
   ·rw [if_pos c6] at H
    have c6b0 : decide (1000000000 < t197) = true := decide_eq_true c6
    clear c6
    simp only [Option.some.injEq, Prod.mk.injEq] at H
    obtain ⟨rfl, rfl, rfl, rfl⟩ := H
    obtain ⟨HGz7, hgz7⟩ := HI0.out
    have hcz7_0 := cellS69_0 HGz7
    have hcz7_1 := cellS69_1 HGz7
    have hcz7_2 := cellS69_2 HGz7
    have hfz7_0 := blk_frozen HGz7 0
    have hfz7_1 := blk_frozen HGz7 1
    have hfz7_2 := blk_frozen HGz7 2
    clear HGz7 hgz7
    go_enter Tryd.func46, Tryd.ntmps46
    go_wp2_with (fail)
    repeat (go_quiet (first | (go_at_call 45; (with_reducible refine (pack_TakeNumber.calls k s0_0 s0_1 t197 t198 t199 _ A2.out).mono ?_); rintro e w' ⟨rfl, ⟨nd, rfl⟩⟩; (try exact ⟨rfl, _, World.drewN_drewN _ _ _⟩))); try go_wp2_with (fail))
    go_ret
    exact ⟨by rfl, by repeat (with_reducible first | exact HI0.out | apply IsS69.drewN | apply IsS69.set_2), by repeat (with_reducible first | exact HB.out | apply pw_below_drewN | refine below_set ?_ (IsS69.ge HI0.out)), by repeat (with_reducible first | exact HK.out | apply KeepBut.set_ | apply keep_drewN)⟩
   ·rw [if_neg c6] at H
    have c6b0 : decide (1000000000 < t197) = false := decide_eq_false c6
    clear c6
    simp only [Option.some.injEq, Prod.mk.injEq] at H
    obtain ⟨rfl, rfl, rfl, rfl⟩ := H
    obtain ⟨HGz8, hgz8⟩ := HI0.out
    have hcz8_0 := cellS69_0 HGz8
    have hcz8_1 := cellS69_1 HGz8
    have hcz8_2 := cellS69_2 HGz8
    have hfz8_0 := blk_frozen HGz8 0
    have hfz8_1 := blk_frozen HGz8 1
    have hfz8_2 := blk_frozen HGz8 2
    clear HGz8 hgz8
    go_enter Tryd.func46, Tryd.ntmps46
    go_wp2_with (fail)
    repeat (go_quiet (first | (go_at_call 45; (with_reducible refine (pack_TakeNumber.calls k s0_0 s0_1 t197 t198 t199 _ A2.out).mono ?_); rintro e w' ⟨rfl, ⟨nd, rfl⟩⟩; (try exact ⟨rfl, _, World.drewN_drewN _ _ _⟩))); try go_wp2_with (fail))
    go_ret
    exact ⟨by rfl, by repeat (with_reducible first | exact HI0.out | apply IsS69.drewN | apply IsS69.set_1), by repeat (with_reducible first | exact HB.out | apply pw_below_drewN | refine below_set ?_ (IsS69.ge HI0.out)), by repeat (with_reducible first | exact HK.out | apply KeepBut.set_ | apply keep_drewN)⟩
  ·rw [if_neg c5] at H
   have c5b0 : (t199 == 0) = false := beq_eq_false_iff_ne.mpr c5
   have c5b1 : (t199 != 0) = true := bne_iff_ne.mpr c5
   simp only [Option.some.injEq, Prod.mk.injEq] at H
   obtain ⟨rfl, rfl, rfl, rfl⟩ := H
   obtain ⟨HGz9, hgz9⟩ := HI0.out
   have hcz9_0 := cellS69_0 HGz9
   have hcz9_1 := cellS69_1 HGz9
   have hcz9_2 := cellS69_2 HGz9
   have hfz9_0 := blk_frozen HGz9 0
   have hfz9_1 := blk_frozen HGz9 1
   have hfz9_2 := blk_frozen HGz9 2
   clear HGz9 hgz9
   go_enter Tryd.func46, Tryd.ntmps46
   go_wp2_with (fail)
   repeat (go_quiet (first | (go_at_call 45; (with_reducible refine (pack_TakeNumber.calls k s0_0 s0_1 t197 t198 t199 _ A2.out).mono ?_); rintro e w' ⟨rfl, ⟨nd, rfl⟩⟩; (try exact ⟨rfl, _, World.drewN_drewN _ _ _⟩))); try go_wp2_with (fail))
   go_ret
   exact ⟨by rfl, by repeat (with_reducible first | exact HI0.out | apply IsS69.drewN | apply IsS69.set_2), by repeat (with_reducible first | exact HB.out | apply pw_below_drewN | refine below_set ?_ (IsS69.ge HI0.out)), by repeat (with_reducible first | exact HK.out | apply KeepBut.set_ | apply keep_drewN)⟩

/-! ### strings_Split: function 54 -/
def strings_Split.f (s sep : ByteArray) : Option (List ByteArray) := if s.size < 4294967281 ∧ 1 ≤ sep.size then some (Lib.splitB sep 0 (Lib.countB s sep) s) else none
theorem strings_Split.calls (a0 a1 : ByteArray) (r : List ByteArray) (w : World) (hw_ : WH w) (h : strings_Split.f a0 a1 = some r) : Calls Tryd.prog 54 #[.string a0, .string a1] w fun e w' => ∃ v0_ : Value, e = .returned (v0_) ∧ Kd.R Kd.string 9 w' w.heap.size (fun _ => True) v0_ r ∧ Below w.heap.size w w' := by
 unfold strings_Split.f at h
 by_cases hb : a0.size < 4294967281 ∧ 1 ≤ a1.size
 ·rw [if_pos hb] at h
  obtain rfl := Option.some.inj h
  obtain ⟨m, hm⟩ := hw_.max
  have hlen := Lib.splitB_all a1 hb.2 0 _ a0 rfl
  have hle := Lib.countB_le a1 hb.2 a0.size a0 (Nat.le_refl _)
  refine (Any.strings_Split Tryd.laysNm_146 (by kernel_rfl) a0 a1 m w hb.1 hm hb.2).mono ?_
  rintro e w' ⟨rfl, rfl⟩
  rw [← hlen]
  generalize Lib.splitB a1 0 (Lib.countB a0 a1) a0 = l at hlen
  refine ⟨_, rfl, ⟨fun _ _ => trivial, l.map Value.string, ?_, ?_⟩, below_alloc (Below.refl _ _) _⟩
  ·have h2 := World.ownsRow_lit (base := w.heap.size) (e := 9) (size := 1) w (l.map Value.string).toArray l.length (Nat.le_refl _) (by have : maxLen = 9223372036854775807 := rfl; omega) (by simp)
   have h3 : (w.alloc (.cells (l.map Value.string).toArray 9)).ownsRow w.heap.size 9 1 (.slice (some ⟨w.heap.size, 0, none⟩) l.length l.length) l.length (l.map Value.string) := by simpa using h2
   exact h3
  ·refine ⟨by rw [List.length_map]; exact (Nat.mul_one _).symm, fun j p hj => ?_⟩
   show ((l.map Value.string).drop (j * 1)).take 1 = [Value.string p]
   have hjl := (List.getElem?_eq_some_iff.1 hj).1
   have hp := (List.getElem?_eq_some_iff.1 hj).2
   rw [Nat.mul_one, List.drop_eq_getElem_cons (by simpa using hjl)]
   simp [hp]
 ·rw [if_neg hb] at h; cases h

-- NOT PRINTED: function 97 (bytealg_IndexByteString)

/-! ### stringslite_IndexByte: function 90 -/
def stringslite_IndexByte.f (a0 : ByteArray) (a1 : Int) : Option (Int) := some (xt_indexByte a0 a1)
set_option maxHeartbeats 8000000 in
set_option maxRecDepth 100000 in
theorem stringslite_IndexByte.calls (a0 : ByteArray) (a1 : Int) (r : Int) (w : World) (h : stringslite_IndexByte.f a0 a1 = some r) :
  Calls Tryd.prog 90 #[.string a0, .int .u8 a1] w fun e w' => e = .returned (.int .i64 r) ∧ Drawn0 w w' := by
 have H : (some (xt_indexByte a0 a1)) = some r := h
 clear h
 obtain rfl := Option.some.inj H
 go_enter Tryd.func90, Tryd.ntmps90
 go_wp2
 go_ret
 exact ⟨by rfl, Drawn0.refl _⟩

-- NOT PRINTED: function 91 (bytealg_IndexString)

/-! ### stringslite_Index: function 83 -/
def stringslite_Index.j0 : Nat → ByteArray → ByteArray → Int → Bool → Option (Int)
 | 0, _, _, _, _ => none
 | k + 1, x0, x1, x5, x16 => if x16 = true then (some 0) else (if x5 = 1 then (if 0 < (x1.size : Int) then ((stringslite_IndexByte.f x0 (bt x1 0)).bind fun t200 => (some t200)) else (none)) else (if x5 ≥ (x0.size : Int) then (some (-1)) else (none)))
def stringslite_Index.f (k : Nat) (a0 : ByteArray) (a1 : ByteArray) : Option (Int) := if (a1.size : Int) = 0 then (stringslite_Index.j0 k a0 a1 (a1.size : Int) true) else (stringslite_Index.j0 k a0 a1 (a1.size : Int) (a1.toList == a0.toList))
theorem stringslite_Index.mono_l : ∀ k, (∀ y0 y1 y2 y3, LeO (stringslite_Index.j0 k y0 y1 y2 y3) (stringslite_Index.j0 (k + 1) y0 y1 y2 y3))
 | 0 => fun _ _ _ _ r h => by simp [stringslite_Index.j0] at h
 | k + 1 => by
  have ih0 := stringslite_Index.mono_l k
  ·intro y0 y1 y2 y3
   unfold stringslite_Index.j0
   repeat' first
   | (with_reducible exact ih0 _ _ _ _)
   | (with_reducible exact LeO.refl _)
   | (with_reducible exact LeO.none _)
   | (with_reducible refine LeO.ite ?_ ?_)
   | (with_reducible refine LeO.bind ?_ (fun _ => ?_))
   | exact ih0 _ _ _ _
   | exact LeO.none _
   | refine LeO.ite ?_ ?_
   | refine LeO.bind ?_ (fun _ => ?_)
theorem stringslite_Index.mono : ∀ a0 a1 k, LeO (stringslite_Index.f k a0 a1) (stringslite_Index.f (k + 1) a0 a1) := by
 intro a0 a1 k
 have ih0 := stringslite_Index.mono_l k
 unfold stringslite_Index.f
 repeat' first
   | (with_reducible exact ih0 _ _ _ _)
   | (with_reducible exact LeO.refl _)
   | (with_reducible exact LeO.none _)
   | (with_reducible refine LeO.ite ?_ ?_)
   | (with_reducible refine LeO.bind ?_ (fun _ => ?_))
   | exact ih0 _ _ _ _
   | exact LeO.none _
   | refine LeO.ite ?_ ?_
   | refine LeO.bind ?_ (fun _ => ?_)
set_option maxHeartbeats 8000000 in
set_option maxRecDepth 100000 in
theorem stringslite_Index.calls (k : Nat) (a0 : ByteArray) (a1 : ByteArray) (r : Int) (w : World) (h : stringslite_Index.f k a0 a1 = some r) :
  Calls Tryd.prog 83 #[.string a0, .string a1] w fun e w' => e = .returned (.int .i64 r) ∧ Drawn0 w w' := by
 have H : (if (a1.size : Int) = 0 then (stringslite_Index.j0 k a0 a1 (a1.size : Int) true) else (stringslite_Index.j0 k a0 a1 (a1.size : Int) (a1.toList == a0.toList))) = some r := h
 clear h
 have HC3 := Aside0.mk H
 clear H
 go_enter Tryd.func83, Tryd.ntmps83
 go_upto_region 2 with (fail)
 go_cut [16] (fun v16 wc => ∃ (kq : Nat) (x16_2 : Bool), v16 = .bool x16_2 ∧ Aside0 (stringslite_Index.j0 kq a0 a1 (a1.size : Int) x16_2 = some r) ∧ Aside0 (kq ≤ k) ∧ Drawn0 w wc)
 case first =>
  have H := HC3.out
  clear HC3
  by_cases c4 : (a1.size : Int) = 0
  ·rw [if_pos c4] at H
   have c4b0 : ((a1.size : Int) == 0) = true := beq_iff_eq.mpr c4
   have c4b1 : ((a1.size : Int) != 0) = false := bne_eq_false_iff_eq.mpr c4
   clear c4
   (skip)
   have H' := Aside0.mk H
   clear H
   go_wp2
   go_meet
   case rel => exact ⟨_, (true), (by rfl), H', ⟨by omega⟩, Drawn0.refl _⟩
  ·rw [if_neg c4] at H
   have c4b0 : ((a1.size : Int) == 0) = false := beq_eq_false_iff_ne.mpr c4
   have c4b1 : ((a1.size : Int) != 0) = true := bne_iff_ne.mpr c4
   (skip)
   have H' := Aside0.mk H
   clear H
   go_wp2
   go_meet
   case rel => exact ⟨_, ((a1.toList == a0.toList)), (by rfl), H', ⟨by omega⟩, Drawn0.refl _⟩
 case rest =>
  clear HC3
  obtain ⟨kq, x16_2, rfl, HA, HJ2, ⟨mc2, rfl⟩⟩ := hcut
  cases kq with
  | zero => exact absurd HA.out (by simp [stringslite_Index.j0])
  | succ kj2 =>
   have H := HA.out
   clear HA
   simp only [stringslite_Index.j0] at H
   by_cases c5 : x16_2 = true
   ·subst c5
    have H1 : (some 0) = some r := by rw [if_pos rfl] at H; exact H
    clear H
    have H := H1
    clear H1
    obtain rfl := Option.some.inj H
    go_wp2
    go_ret
    exact ⟨by rfl, by repeat (first | exact Drawn0.refl _ | apply Drawn0.step)⟩
   ·replace c5 := Bool.eq_false_iff.mpr c5
    subst c5
    have H1 : (if (a1.size : Int) = 1 then (if 0 < (a1.size : Int) then ((stringslite_IndexByte.f a0 (bt a1 0)).bind fun t200 => (some t200)) else (none)) else (if (a1.size : Int) ≥ (a0.size : Int) then (some (-1)) else (none))) = some r := by rw [if_neg (show ¬ (false = true) by decide)] at H; exact H
    clear H
    have H := H1
    clear H1
    by_cases c6 : (a1.size : Int) = 1
    ·rw [if_pos c6] at H
     have c6b0 : ((a1.size : Int) == 1) = true := beq_iff_eq.mpr c6
     have c6b1 : ((a1.size : Int) != 1) = false := bne_eq_false_iff_eq.mpr c6
     clear c6
     by_cases c7 : 0 < (a1.size : Int)
     ·rw [if_pos c7] at H
      have c7b0 : decide (0 < (a1.size : Int)) = true := decide_eq_true c7
      have c7b1 : decide (0 < a1.size) = true := decide_eq_true (by omega)
      clear c7
      obtain ⟨t200, A90, H⟩ := Option.bind_eq_some_iff.mp H
      try dsimp only at H
      have A9 := Aside0.mk A90
      clear A90
      obtain rfl := Option.some.inj H
      have p8 : 0 ≤ (0 : Int) := (by omega)
      have q8 : 0 < a1.size := (by have : (0 : Int) < (a1.size : Int) := of_decide_eq_true (by (with_reducible assumption)); omega)
      have hx8 : ∀ h : 0 < a1.size, ((a1[0]'h).toNat : Int) = bt a1 0 := bt_at a1 0
      clear p8
      have qi8 : (0 < (a1.size : Int)) = True := eq_true (of_decide_eq_true (by (with_reducible assumption)))
      replace q8 := eq_true q8
      go_wp2_with (first | ((with_reducible refine gate_callee (f := 90) rfl ?_); refine goesL_ (some 30) rfl rfl Tryd.func90 (by kernel_rfl) rfl #[.string a0, .int .u8 (bt a1 0)] rfl (by (try simp only [List.map_toArray, List.map_cons, List.map_nil]); rfl) ?_; (with_reducible refine (stringslite_IndexByte.calls a0 (bt a1 0) t200 _ A9.out).mono ?_); rintro e w' ⟨rfl, ⟨nd, rfl⟩⟩; refine ⟨_, rfl, ?_⟩))
      go_ret
      exact ⟨by rfl, by repeat (first | exact Drawn0.refl _ | apply Drawn0.step)⟩
     ·rw [if_neg c7] at H
      exact absurd H (by simp)
    ·rw [if_neg c6] at H
     have c6b0 : ((a1.size : Int) == 1) = false := beq_eq_false_iff_ne.mpr c6
     have c6b1 : ((a1.size : Int) != 1) = true := bne_iff_ne.mpr c6
     by_cases c10 : (a1.size : Int) ≥ (a0.size : Int)
     ·rw [if_pos c10] at H
      have c10b0 : decide ((a0.size : Int) ≤ (a1.size : Int)) = true := decide_eq_true c10
      have c10b1 : decide (a0.size ≤ a1.size) = true := decide_eq_true (Int.ofNat_le.mp c10)
      clear c10
      obtain rfl := Option.some.inj H
      go_wp2
      go_ret
      exact ⟨by rfl, by repeat (first | exact Drawn0.refl _ | apply Drawn0.step)⟩
     ·rw [if_neg c10] at H
      exact absurd H (by simp)

/-! ### stringslite_Cut: function 75 -/
def stringslite_Cut.f (k : Nat) (a0 : ByteArray) (a1 : ByteArray) : Option (ByteArray × ByteArray × Bool) := (stringslite_Index.f k a0 a1).bind fun t201 => (if t201 ≥ 0 then (if 0 ≤ t201 then (if t201 ≤ (a0.size : Int) then (if 0 ≤ (wrap64 (t201 + (a1.size : Int))) then (if (wrap64 (t201 + (a1.size : Int))) ≤ (a0.size : Int) then (some (a0.extract 0 (t201 : Int).toNat, a0.extract ((wrap64 (t201 + (a1.size : Int))) : Int).toNat a0.size, true)) else (none)) else (none)) else (none)) else (none)) else (some (a0, (⟨#[]⟩ : ByteArray), false)))
theorem stringslite_Cut.mono : ∀ a0 a1 k, LeO (stringslite_Cut.f k a0 a1) (stringslite_Cut.f (k + 1) a0 a1) := by
 intro a0 a1 k
 unfold stringslite_Cut.f
 repeat' first
   | (with_reducible exact stringslite_Index.mono _ _ _)
   | (with_reducible exact LeO.refl _)
   | (with_reducible exact LeO.none _)
   | (with_reducible refine LeO.ite ?_ ?_)
   | (with_reducible refine LeO.bind ?_ (fun _ => ?_))
   | exact stringslite_Index.mono _ _ _
   | exact LeO.none _
   | refine LeO.ite ?_ ?_
   | refine LeO.bind ?_ (fun _ => ?_)
set_option maxHeartbeats 8000000 in
set_option maxRecDepth 100000 in
theorem stringslite_Cut.calls (k : Nat) (a0 : ByteArray) (a1 : ByteArray) (r1 : ByteArray) (r2 : ByteArray) (r3 : Bool) (w : World) (h : stringslite_Cut.f k a0 a1 = some (r1, r2, r3)) :
  Calls Tryd.prog 75 #[.string a0, .string a1] w fun e w' => e = .returned (.tuple #[.string r1, .string r2, .bool r3]) ∧ Drawn0 w w' := by
 have H : ((stringslite_Index.f k a0 a1).bind fun t201 => (if t201 ≥ 0 then (if 0 ≤ t201 then (if t201 ≤ (a0.size : Int) then (if 0 ≤ (wrap64 (t201 + (a1.size : Int))) then (if (wrap64 (t201 + (a1.size : Int))) ≤ (a0.size : Int) then (some (a0.extract 0 (t201 : Int).toNat, a0.extract ((wrap64 (t201 + (a1.size : Int))) : Int).toNat a0.size, true)) else (none)) else (none)) else (none)) else (none)) else (some (a0, (⟨#[]⟩ : ByteArray), false)))) = some (r1, r2, r3) := h
 clear h
 obtain ⟨t201, A30, H⟩ := Option.bind_eq_some_iff.mp H
 try dsimp only at H
 have A3 := Aside0.mk A30
 clear A30
 by_cases c4 : t201 ≥ 0
 ·rw [if_pos c4] at H
  have c4b0 : decide (0 ≤ t201) = true := decide_eq_true c4
  clear c4
  by_cases c5 : 0 ≤ t201
  ·rw [if_pos c5] at H
   have c5b0 := eq_true c5
   have c5b1 : decide (0 ≤ t201) = true := decide_eq_true c5
   clear c5
   by_cases c6 : t201 ≤ (a0.size : Int)
   ·rw [if_pos c6] at H
    have c6b0 := eq_true c6
    have c6b1 : decide (t201 ≤ (a0.size : Int)) = true := decide_eq_true c6
    clear c6
    obtain ⟨ji7, hji7⟩ : ∃ j_ : Int, (wrap64 (t201 + (a1.size : Int))) = j_ := ⟨_, rfl⟩
    replace H : (if 0 ≤ (ji7) then (if (ji7) ≤ (a0.size : Int) then (some (a0.extract 0 (t201 : Int).toNat, a0.extract ((ji7) : Int).toNat a0.size, true)) else (none)) else (none)) = some (r1, r2, r3) := by (rw [hji7] at H; exact H)
    (try rw [hji7] at A3)
    have hji7w : (IntKind.i64.wrap (t201 + (a1.size : Int))) = ji7 := (i64_w _).trans hji7
    by_cases c8 : 0 ≤ (ji7)
    ·rw [if_pos c8] at H
     have c8b0 := eq_true c8
     have c8b1 : decide (0 ≤ (ji7)) = true := decide_eq_true c8
     clear c8
     by_cases c9 : (ji7) ≤ (a0.size : Int)
     ·rw [if_pos c9] at H
      have c9b0 := eq_true c9
      have c9b1 : decide ((ji7) ≤ (a0.size : Int)) = true := decide_eq_true c9
      clear c9
      simp only [Option.some.injEq, Prod.mk.injEq] at H
      obtain ⟨rfl, rfl, rfl⟩ := H
      go_enter Tryd.func75, Tryd.ntmps75
      go_wp2_with (first | (go_at_call 83; (with_reducible refine (stringslite_Index.calls k a0 a1 t201 _ A3.out).mono ?_); rintro e w' ⟨rfl, ⟨nd, rfl⟩⟩; (try first | exact ⟨rfl, _, World.drewN_drewN _ _ _⟩ | exact ⟨rfl, _, Eq.trans (World.drewN_drewN _ _ _) (congrArg (World.drewN _) (Nat.add_assoc _ _ _))⟩)))
      repeat (go_quiet (fail); try go_wp2_with (fail))
      go_ret3
      exact ⟨by first | rfl | (simp; done) | (simp only [← hji7] <;> (first | rfl | (simp; done) | (simp; exact (fun (l_ : List UInt8) => show l_.isEmpty = !(l_ != []) from (by cases l_ <;> rfl)) _))) | (simp [*]; done), by repeat (first | exact Drawn0.refl _ | apply Drawn0.step)⟩
     ·rw [if_neg c9] at H
      exact absurd H (by simp)
    ·rw [if_neg c8] at H
     exact absurd H (by simp)
   ·rw [if_neg c6] at H
    exact absurd H (by simp)
  ·rw [if_neg c5] at H
   exact absurd H (by simp)
 ·rw [if_neg c4] at H
  have c4b0 : decide (0 ≤ t201) = false := decide_eq_false c4
  clear c4
  simp only [Option.some.injEq, Prod.mk.injEq] at H
  obtain ⟨rfl, rfl, rfl⟩ := H
  go_enter Tryd.func75, Tryd.ntmps75
  go_wp2_with (first | (go_at_call 83; (with_reducible refine (stringslite_Index.calls k a0 a1 t201 _ A3.out).mono ?_); rintro e w' ⟨rfl, ⟨nd, rfl⟩⟩; (try first | exact ⟨rfl, _, World.drewN_drewN _ _ _⟩ | exact ⟨rfl, _, Eq.trans (World.drewN_drewN _ _ _) (congrArg (World.drewN _) (Nat.add_assoc _ _ _))⟩)))
  repeat (go_quiet (fail); try go_wp2_with (fail))
  go_ret3
  exact ⟨by rfl, by repeat (first | exact Drawn0.refl _ | apply Drawn0.step)⟩

/-! ### strings_Cut: function 64 -/
def strings_Cut.f (k : Nat) (a0 : ByteArray) (a1 : ByteArray) : Option (ByteArray × ByteArray × Bool) := (stringslite_Cut.f k a0 a1).bind fun bt202 => (some (bt202.1, bt202.2.1, bt202.2.2))
theorem strings_Cut.mono : ∀ a0 a1 k, LeO (strings_Cut.f k a0 a1) (strings_Cut.f (k + 1) a0 a1) := by
 intro a0 a1 k
 unfold strings_Cut.f
 repeat' first
   | (with_reducible exact stringslite_Cut.mono _ _ _)
   | (with_reducible exact LeO.refl _)
   | (with_reducible exact LeO.none _)
   | (with_reducible refine LeO.ite ?_ ?_)
   | (with_reducible refine LeO.bind ?_ (fun _ => ?_))
   | exact stringslite_Cut.mono _ _ _
   | exact LeO.none _
   | refine LeO.ite ?_ ?_
   | refine LeO.bind ?_ (fun _ => ?_)
set_option maxHeartbeats 8000000 in
set_option maxRecDepth 100000 in
theorem strings_Cut.calls (k : Nat) (a0 : ByteArray) (a1 : ByteArray) (r1 : ByteArray) (r2 : ByteArray) (r3 : Bool) (w : World) (h : strings_Cut.f k a0 a1 = some (r1, r2, r3)) :
  Calls Tryd.prog 64 #[.string a0, .string a1] w fun e w' => e = .returned (.tuple #[.string r1, .string r2, .bool r3]) ∧ Drawn0 w w' := by
 have H : ((stringslite_Cut.f k a0 a1).bind fun bt202 => (some (bt202.1, bt202.2.1, bt202.2.2))) = some (r1, r2, r3) := h
 clear h
 obtain ⟨⟨t202, t203, t204⟩, A30, H⟩ := Option.bind_eq_some_iff.mp H
 try dsimp only at H
 have A3 := Aside0.mk A30
 clear A30
 simp only [Option.some.injEq, Prod.mk.injEq] at H
 obtain ⟨rfl, rfl, rfl⟩ := H
 go_enter Tryd.func64, Tryd.ntmps64
 go_wp2_with (first | ((with_reducible refine gate_callee (f := 75) rfl ?_); refine goesL_ (some 9) rfl rfl Tryd.func75 (by kernel_rfl) rfl #[.string a0, .string a1] rfl (by (try simp only [List.map_toArray, List.map_cons, List.map_nil]); rfl) ?_; (with_reducible refine (stringslite_Cut.calls k a0 a1 t202 t203 t204 _ A3.out).mono ?_); rintro e w' ⟨rfl, ⟨nd, rfl⟩⟩; refine ⟨_, rfl, ?_⟩))
 go_ret3
 exact ⟨by rfl, by repeat (first | exact Drawn0.refl _ | apply Drawn0.step)⟩

/-! ### ident_pair: function 55 -/
def ident_pair.atoiR (s : ByteArray) : Option Int := match Lib.atoiAll s.data.toList with | .ok v => some v | _ => none
theorem ident_pair.atoi_ok (s : ByteArray) (hlim : s.size ≤ 281474976710656) (v : Int) (hv : ident_pair.atoiR s = some v) (w : World) : Calls Tryd.prog 65 #[.string s] w fun e w' => e = .returned (.tuple #[.int .i64 v, .nilIface]) ∧ Below w.heap.size w w' := by
 unfold ident_pair.atoiR at hv
 rcases h : Lib.atoiAll s.data.toList with x | _ | _
 ·rw [h] at hv
  obtain rfl := Option.some.inj hv
  refine (Any.strconv_Atoi_ok Tryd.laysNm_172 s (by omega) x h w).mono ?_
  rintro e w' ⟨rfl, hw⟩
  refine ⟨rfl, ?_⟩
  rcases hw with rfl | ⟨t, rfl⟩
  ·exact Below.refl _ _
  ·exact Go.Joins.below_bytesWorld _ _ _ _ (Nat.le_refl _)
 ·rw [h] at hv; cases hv
 ·rw [h] at hv; cases hv
theorem ident_pair.atoi_bad (s : ByteArray) (hlim : s.size ≤ 281474976710656) (hv : ident_pair.atoiR s = none) (w : World) (hw_ : WH w) : Calls Tryd.prog 65 #[.string s] w fun e w' => ∃ v t p, e = .returned (.tuple #[.int .i64 v, .iface t p]) ∧ Below w.heap.size w w' := by
 obtain ⟨t1, p1, h1⟩ := hw_.syn
 obtain ⟨t2, p2, h2⟩ := hw_.rng
 unfold ident_pair.atoiR at hv
 rcases h : Lib.atoiAll s.data.toList with x | _ | _
 ·rw [h] at hv; cases hv
 ·refine (Any.strconv_Atoi_syntax_var Tryd.laysNm_172 s hlim h t1 p1 w h1).mono ?_
  rintro e w' ⟨N, rfl, _, _, hb⟩
  exact ⟨_, _, _, rfl, hb⟩
 ·refine (Any.strconv_Atoi_range_var Tryd.laysNm_172 s hlim h t2 p2 w h2).mono ?_
  rintro e w' ⟨N, rfl, _, _, hb⟩
  exact ⟨_, _, _, rfl, hb⟩
def ident_pair.pairR (a b : ByteArray) : Int × Int := match ident_pair.atoiR a, ident_pair.atoiR b with | some x, some y => (x, y) | _, _ => (-1, -1)
def ident_pair.f (k : Nat) (a0 a1 : ByteArray) : Option (Int × Int) := (strings_Cut.f k a0 a1).bind fun c => if c.1.size ≤ 281474976710656 ∧ c.2.1.size ≤ 281474976710656 then some (ident_pair.pairR c.1 c.2.1) else none
theorem ident_pair.mono : ∀ a0 a1 k, LeO (ident_pair.f k a0 a1) (ident_pair.f (k + 1) a0 a1) := by
 intro a0 a1 k
 unfold ident_pair.f
 exact LeO.bind (strings_Cut.mono _ _ _) (fun _ => LeO.refl _)
set_option maxHeartbeats 8000000 in
set_option maxRecDepth 100000 in
theorem ident_pair.calls (k : Nat) (a0 a1 : ByteArray) (r1 r2 : Int) (w : World) (hw_ : WH w) (h : ident_pair.f k a0 a1 = some (r1, r2)) : Calls Tryd.prog 55 #[.string a0, .string a1] w fun e w' => e = .returned (.tuple #[.int .i64 r1, .int .i64 r2]) ∧ Below w.heap.size w w' := by
 have HB := Aside0.mk (Below.refl w.heap.size w)
 have HW := Aside0.mk hw_
 unfold ident_pair.f at h
 obtain ⟨⟨c1, c2, c3⟩, hc, h⟩ := Option.bind_eq_some_iff.1 h
 have HC := Aside0.mk hc
 replace h : (if c1.size ≤ 281474976710656 ∧ c2.size ≤ 281474976710656 then some (ident_pair.pairR c1 c2) else none) = some (r1, r2) := h
 by_cases hs : c1.size ≤ 281474976710656 ∧ c2.size ≤ 281474976710656
 case neg => rw [if_neg hs] at h; cases h
 rw [if_pos hs] at h
 have h0 := Option.some.inj h
 have HS := Aside0.mk hs
 clear h hs hc hw_
 cases h1 : ident_pair.atoiR c1 with
 | some x =>
  have H1 := Aside0.mk h1
  cases h2 : ident_pair.atoiR c2 with
  | some y =>
   have H2 := Aside0.mk h2
   unfold ident_pair.pairR at h0
   rw [h1, h2] at h0
   simp only [Prod.mk.injEq] at h0
   obtain ⟨rfl, rfl⟩ := h0
   clear h1 h2
   go_enter Tryd.func55, Tryd.ntmps55
   go_wp2_with (first | (go_at_call 64; (with_reducible refine (strings_Cut.calls k a0 a1 c1 c2 c3 _ HC.out).mono ?_); rintro e w1 ⟨rfl, hd⟩; have hb := Drawn0.below hd; replace HB := Aside0.mk (below_step (HB.out) hb); clear hb hd) | (go_at_call 65; (with_reducible refine (ident_pair.atoi_ok c1 HS.out.1 x H1.out _).mono ?_); rintro e w2 ⟨rfl, hb⟩; replace HB := Aside0.mk (below_step (HB.out) hb); clear hb) | (go_at_call 65; (with_reducible refine (ident_pair.atoi_ok c2 HS.out.2 y H2.out _).mono ?_); rintro e w3 ⟨rfl, hb⟩; replace HB := Aside0.mk (below_step (HB.out) hb); clear hb))
   go_ret2
   exact ⟨rfl, (HB.out)⟩
  | none =>
   have H2 := Aside0.mk h2
   unfold ident_pair.pairR at h0
   rw [h1, h2] at h0
   simp only [Prod.mk.injEq] at h0
   obtain ⟨rfl, rfl⟩ := h0
   clear h1 h2
   go_enter Tryd.func55, Tryd.ntmps55
   go_wp2_with (first | (go_at_call 64; (with_reducible refine (strings_Cut.calls k a0 a1 c1 c2 c3 _ HC.out).mono ?_); rintro e w1 ⟨rfl, hd⟩; have hb := Drawn0.below hd; replace HB := Aside0.mk (below_step (HB.out) hb); clear hb hd) | (go_at_call 65; (with_reducible refine (ident_pair.atoi_ok c1 HS.out.1 x H1.out _).mono ?_); rintro e w2 ⟨rfl, hb⟩; replace HB := Aside0.mk (below_step (HB.out) hb); clear hb) | (go_at_call 65; (with_reducible refine (ident_pair.atoi_bad c2 HS.out.2 H2.out _ (WH.below HW.out (HB.out))).mono ?_); rintro e w3 ⟨v2, t2, p2, rfl, hb⟩; replace HB := Aside0.mk (below_step (HB.out) hb); clear hb))
   go_ret2
   exact ⟨rfl, (HB.out)⟩
 | none =>
  have H1 := Aside0.mk h1
  have h0' : r1 = -1 ∧ r2 = -1 := by
   unfold ident_pair.pairR at h0
   rw [h1] at h0
   simp only [Prod.mk.injEq] at h0
   exact ⟨h0.1.symm, h0.2.symm⟩
  obtain ⟨rfl, rfl⟩ := h0'
  clear h0 h1
  cases h2 : ident_pair.atoiR c2 with
  | some y =>
   have H2 := Aside0.mk h2
   clear h2
   go_enter Tryd.func55, Tryd.ntmps55
   go_wp2_with (first | (go_at_call 64; (with_reducible refine (strings_Cut.calls k a0 a1 c1 c2 c3 _ HC.out).mono ?_); rintro e w1 ⟨rfl, hd⟩; have hb := Drawn0.below hd; replace HB := Aside0.mk (below_step (HB.out) hb); clear hb hd) | (go_at_call 65; (with_reducible refine (ident_pair.atoi_bad c1 HS.out.1 H1.out _ (WH.below HW.out (HB.out))).mono ?_); rintro e w2 ⟨v1, t1, p1, rfl, hb⟩; replace HB := Aside0.mk (below_step (HB.out) hb); clear hb) | (go_at_call 65; (with_reducible refine (ident_pair.atoi_ok c2 HS.out.2 y H2.out _).mono ?_); rintro e w3 ⟨rfl, hb⟩; replace HB := Aside0.mk (below_step (HB.out) hb); clear hb))
   go_ret2
   exact ⟨rfl, (HB.out)⟩
  | none =>
   have H2 := Aside0.mk h2
   clear h2
   go_enter Tryd.func55, Tryd.ntmps55
   go_wp2_with (first | (go_at_call 64; (with_reducible refine (strings_Cut.calls k a0 a1 c1 c2 c3 _ HC.out).mono ?_); rintro e w1 ⟨rfl, hd⟩; have hb := Drawn0.below hd; replace HB := Aside0.mk (below_step (HB.out) hb); clear hb hd) | (go_at_call 65; (with_reducible refine (ident_pair.atoi_bad c1 HS.out.1 H1.out _ (WH.below HW.out (HB.out))).mono ?_); rintro e w2 ⟨v1, t1, p1, rfl, hb⟩; replace HB := Aside0.mk (below_step (HB.out) hb); clear hb) | (go_at_call 65; (with_reducible refine (ident_pair.atoi_bad c2 HS.out.2 H2.out _ (WH.below HW.out (HB.out))).mono ?_); rintro e w3 ⟨v2, t2, p2, rfl, hb⟩; replace HB := Aside0.mk (below_step (HB.out) hb); clear hb))
   go_ret2
   exact ⟨rfl, (HB.out)⟩

end Go.Proofs.YtlaeihdldofkcaaDoor.PN

/- The machine side of this seat's laws: plain functions, and proofs that the calls do what they say; written by a program of this session over the translation; no conditions beyond those typed. -/
import Derived.Test.YtghpbcfkldbpjabDoorPLx0
import Derived.Test.YtghpbcfkldbpjabDoorPLx6
namespace Go.Proofs.YtghpbcfkldbpjabDoor.PL
open Go.RowKit Go.Proofs.YtghpbcfkldbpjabDoorW.PrintWords Go.Proofs.YtghpbcfkldbpjabDoorW.PrintLast Go.Proofs.YtghpbcfkldbpjabDoorW.PrintMore
attribute [local go_sem] max2_int min2_int max_two min_two max_three min_three max_four min_four   -- for this text's walks alone
set_option linter.unusedVariables false
set_option linter.unusedSimpArgs false

/-! ### ententeref08_Check: function 19 -/
mutual
def ententeref08_Check.j0 : Nat → List (S32) → Int → Bool → Option (Int)
  | 0, _, _, _ => none
  | k + 1, x0, x3, x32 => if x32 = true then (some 80) else (ententeref08_Check.l0 k x0 x3 0)
def ententeref08_Check.l0 : Nat → List (S32) → Int → Int → Option (Int)
  | 0, _, _, _ => none
  | k + 1, x0, x3, x4 => if x4 < (wrap64 (x3 - 1)) then (if 0 ≤ x4 then (if x4 < (x0.length : Int) then (if ((rd_T32 x0 x4).f0) = 1 then ((ententeref06_Name.f k ((rd_T32 x0 x4).f1)).bind fun t223 => (ententeref08_Check.j2 k x0 x3 x4 ((rd_T32 x0 x4).f0) ((rd_T32 x0 x4).f1) t223)) else (ententeref08_Check.j2 k x0 x3 x4 ((rd_T32 x0 x4).f0) ((rd_T32 x0 x4).f1) false)) else (none)) else (none)) else (ententeref08_Check.l1 k x0 x3 0 0)
def ententeref08_Check.j2 : Nat → List (S32) → Int → Int → Int → ByteArray → Bool → Option (Int)
  | 0, _, _, _, _, _, _ => none
  | k + 1, x0, x3, x4, x5, x6, x7 => if x5 = 2 then ((ententeref08_Number.f k x6).bind fun t224 => (if x7 = true then (ententeref08_Check.l0 k x0 x3 (wrap64 (x4 + 1))) else (if t224 = true then (ententeref08_Check.l0 k x0 x3 (wrap64 (x4 + 1))) else (if x5 = 3 then ((ententeref08_sign.f x6).bind fun t225 => (if t225 = true then (ententeref08_Check.l0 k x0 x3 (wrap64 (x4 + 1))) else (some 80))) else (some 80))))) else (if x7 = true then (ententeref08_Check.l0 k x0 x3 (wrap64 (x4 + 1))) else (if x5 = 3 then ((ententeref08_sign.f x6).bind fun t226 => (if t226 = true then (ententeref08_Check.l0 k x0 x3 (wrap64 (x4 + 1))) else (some 80))) else (some 80)))
def ententeref08_Check.l1 : Nat → List (S32) → Int → Int → Int → Option (Int)
  | 0, _, _, _, _ => none
  | k + 1, x0, x3, x9, x10 => if x10 < (wrap64 (x3 - 1)) then (ententeref08_Check.j4 k x0 x3 x9 x10 (decide (x9 ≤ 2000))) else (ententeref08_Check.j4 k x0 x3 x9 x10 false)
def ententeref08_Check.j4 : Nat → List (S32) → Int → Int → Int → Bool → Option (Int)
  | 0, _, _, _, _, _ => none
  | k + 1, x0, x3, x9, x10, x83 => if x83 = true then (if x10 > 0 then (if 0 ≤ x10 then (if x10 < (x0.length : Int) then (ententeref08_Check.l1 k x0 x3 (wrap64 ((wrap64 (x9 + 1)) + (((rd_T32 x0 x10).f1).size : Int))) (wrap64 (x10 + 1))) else (none)) else (none)) else (if 0 ≤ x10 then (if x10 < (x0.length : Int) then (ententeref08_Check.l1 k x0 x3 (wrap64 (x9 + (((rd_T32 x0 x10).f1).size : Int))) (wrap64 (x10 + 1))) else (none)) else (none))) else (if x9 > 2000 then (some 3) else (some 0))
end
def ententeref08_Check.f (k : Nat) (l0 : List (S32)) : Option (Int) := if (l0.length : Int) = 0 then (ententeref08_Check.j0 k l0 (l0.length : Int) true) else (if 0 ≤ (wrap64 ((l0.length : Int) - 1)) then (if (wrap64 ((l0.length : Int) - 1)) < (l0.length : Int) then (if ((rd_T32 l0 (wrap64 ((l0.length : Int) - 1))).f0) = 0 then (ententeref08_Check.j0 k l0 (l0.length : Int) (((rd_T32 l0 (wrap64 ((l0.length : Int) - 1))).f1).toList != ([] : List UInt8))) else (ententeref08_Check.j0 k l0 (l0.length : Int) true)) else (none)) else (none))
theorem ententeref08_Check.mono_l : ∀ k, (∀ y0 y1 y2, LeO (ententeref08_Check.j0 k y0 y1 y2) (ententeref08_Check.j0 (k + 1) y0 y1 y2)) ∧ (∀ y0 y1 y2, LeO (ententeref08_Check.l0 k y0 y1 y2) (ententeref08_Check.l0 (k + 1) y0 y1 y2)) ∧ (∀ y0 y1 y2 y3 y4 y5, LeO (ententeref08_Check.j2 k y0 y1 y2 y3 y4 y5) (ententeref08_Check.j2 (k + 1) y0 y1 y2 y3 y4 y5)) ∧ (∀ y0 y1 y2 y3, LeO (ententeref08_Check.l1 k y0 y1 y2 y3) (ententeref08_Check.l1 (k + 1) y0 y1 y2 y3)) ∧ (∀ y0 y1 y2 y3 y4, LeO (ententeref08_Check.j4 k y0 y1 y2 y3 y4) (ententeref08_Check.j4 (k + 1) y0 y1 y2 y3 y4))
  | 0 => ⟨fun _ _ _ r h => by simp [ententeref08_Check.j0] at h, fun _ _ _ r h => by simp [ententeref08_Check.l0] at h, fun _ _ _ _ _ _ r h => by simp [ententeref08_Check.j2] at h, fun _ _ _ _ r h => by simp [ententeref08_Check.l1] at h, fun _ _ _ _ _ r h => by simp [ententeref08_Check.j4] at h⟩
  | k + 1 => by
    obtain ⟨ih0, ih1, ih2, ih3, ih4⟩ := ententeref08_Check.mono_l k
    refine ⟨?_, ?_, ?_, ?_, ?_⟩
    · intro y0 y1 y2
      unfold ententeref08_Check.j0
      repeat' first
      | (with_reducible exact ih0 _ _ _)
      | (with_reducible exact ih1 _ _ _)
      | (with_reducible exact ih2 _ _ _ _ _ _)
      | (with_reducible exact ih3 _ _ _ _)
      | (with_reducible exact ih4 _ _ _ _ _)
      | (with_reducible exact ententeref06_Name.mono _ _)
      | (with_reducible exact ententeref08_Number.mono _ _)
      | (with_reducible exact LeO.refl _)
      | (with_reducible exact LeO.none _)
      | (with_reducible refine LeO.ite ?_ ?_)
      | (with_reducible refine LeO.bind ?_ (fun _ => ?_))
      | exact ih0 _ _ _
      | exact ih1 _ _ _
      | exact ih2 _ _ _ _ _ _
      | exact ih3 _ _ _ _
      | exact ih4 _ _ _ _ _
      | exact ententeref06_Name.mono _ _
      | exact ententeref08_Number.mono _ _
      | exact LeO.none _
      | refine LeO.ite ?_ ?_
      | refine LeO.bind ?_ (fun _ => ?_)
    · intro y0 y1 y2
      unfold ententeref08_Check.l0
      repeat' first
      | (with_reducible exact ih0 _ _ _)
      | (with_reducible exact ih1 _ _ _)
      | (with_reducible exact ih2 _ _ _ _ _ _)
      | (with_reducible exact ih3 _ _ _ _)
      | (with_reducible exact ih4 _ _ _ _ _)
      | (with_reducible exact ententeref06_Name.mono _ _)
      | (with_reducible exact ententeref08_Number.mono _ _)
      | (with_reducible exact LeO.refl _)
      | (with_reducible exact LeO.none _)
      | (with_reducible refine LeO.ite ?_ ?_)
      | (with_reducible refine LeO.bind ?_ (fun _ => ?_))
      | exact ih0 _ _ _
      | exact ih1 _ _ _
      | exact ih2 _ _ _ _ _ _
      | exact ih3 _ _ _ _
      | exact ih4 _ _ _ _ _
      | exact ententeref06_Name.mono _ _
      | exact ententeref08_Number.mono _ _
      | exact LeO.none _
      | refine LeO.ite ?_ ?_
      | refine LeO.bind ?_ (fun _ => ?_)
    · intro y0 y1 y2 y3 y4 y5
      unfold ententeref08_Check.j2
      repeat' first
      | (with_reducible exact ih0 _ _ _)
      | (with_reducible exact ih1 _ _ _)
      | (with_reducible exact ih2 _ _ _ _ _ _)
      | (with_reducible exact ih3 _ _ _ _)
      | (with_reducible exact ih4 _ _ _ _ _)
      | (with_reducible exact ententeref06_Name.mono _ _)
      | (with_reducible exact ententeref08_Number.mono _ _)
      | (with_reducible exact LeO.refl _)
      | (with_reducible exact LeO.none _)
      | (with_reducible refine LeO.ite ?_ ?_)
      | (with_reducible refine LeO.bind ?_ (fun _ => ?_))
      | exact ih0 _ _ _
      | exact ih1 _ _ _
      | exact ih2 _ _ _ _ _ _
      | exact ih3 _ _ _ _
      | exact ih4 _ _ _ _ _
      | exact ententeref06_Name.mono _ _
      | exact ententeref08_Number.mono _ _
      | exact LeO.none _
      | refine LeO.ite ?_ ?_
      | refine LeO.bind ?_ (fun _ => ?_)
    · intro y0 y1 y2 y3
      unfold ententeref08_Check.l1
      repeat' first
      | (with_reducible exact ih0 _ _ _)
      | (with_reducible exact ih1 _ _ _)
      | (with_reducible exact ih2 _ _ _ _ _ _)
      | (with_reducible exact ih3 _ _ _ _)
      | (with_reducible exact ih4 _ _ _ _ _)
      | (with_reducible exact ententeref06_Name.mono _ _)
      | (with_reducible exact ententeref08_Number.mono _ _)
      | (with_reducible exact LeO.refl _)
      | (with_reducible exact LeO.none _)
      | (with_reducible refine LeO.ite ?_ ?_)
      | (with_reducible refine LeO.bind ?_ (fun _ => ?_))
      | exact ih0 _ _ _
      | exact ih1 _ _ _
      | exact ih2 _ _ _ _ _ _
      | exact ih3 _ _ _ _
      | exact ih4 _ _ _ _ _
      | exact ententeref06_Name.mono _ _
      | exact ententeref08_Number.mono _ _
      | exact LeO.none _
      | refine LeO.ite ?_ ?_
      | refine LeO.bind ?_ (fun _ => ?_)
    · intro y0 y1 y2 y3 y4
      unfold ententeref08_Check.j4
      repeat' first
      | (with_reducible exact ih0 _ _ _)
      | (with_reducible exact ih1 _ _ _)
      | (with_reducible exact ih2 _ _ _ _ _ _)
      | (with_reducible exact ih3 _ _ _ _)
      | (with_reducible exact ih4 _ _ _ _ _)
      | (with_reducible exact ententeref06_Name.mono _ _)
      | (with_reducible exact ententeref08_Number.mono _ _)
      | (with_reducible exact LeO.refl _)
      | (with_reducible exact LeO.none _)
      | (with_reducible refine LeO.ite ?_ ?_)
      | (with_reducible refine LeO.bind ?_ (fun _ => ?_))
      | exact ih0 _ _ _
      | exact ih1 _ _ _
      | exact ih2 _ _ _ _ _ _
      | exact ih3 _ _ _ _
      | exact ih4 _ _ _ _ _
      | exact ententeref06_Name.mono _ _
      | exact ententeref08_Number.mono _ _
      | exact LeO.none _
      | refine LeO.ite ?_ ?_
      | refine LeO.bind ?_ (fun _ => ?_)
theorem ententeref08_Check.mono : ∀ a0 k, LeO (ententeref08_Check.f k a0) (ententeref08_Check.f (k + 1) a0) := by
  intro a0 k
  obtain ⟨ih0, ih1, ih2, ih3, ih4⟩ := ententeref08_Check.mono_l k
  unfold ententeref08_Check.f
  repeat' first
      | (with_reducible exact ih0 _ _ _)
      | (with_reducible exact ih1 _ _ _)
      | (with_reducible exact ih2 _ _ _ _ _ _)
      | (with_reducible exact ih3 _ _ _ _)
      | (with_reducible exact ih4 _ _ _ _ _)
      | (with_reducible exact ententeref06_Name.mono _ _)
      | (with_reducible exact ententeref08_Number.mono _ _)
      | (with_reducible exact LeO.refl _)
      | (with_reducible exact LeO.none _)
      | (with_reducible refine LeO.ite ?_ ?_)
      | (with_reducible refine LeO.bind ?_ (fun _ => ?_))
      | exact ih0 _ _ _
      | exact ih1 _ _ _
      | exact ih2 _ _ _ _ _ _
      | exact ih3 _ _ _ _
      | exact ih4 _ _ _ _ _
      | exact ententeref06_Name.mono _ _
      | exact ententeref08_Number.mono _ _
      | exact LeO.none _
      | refine LeO.ite ?_ ?_
      | refine LeO.bind ?_ (fun _ => ?_)
set_option maxHeartbeats 8000000 in
set_option maxRecDepth 100000 in
theorem ententeref08_Check.calls (k : Nat) (A0 : Option Addr) (c0 : Nat) (l0 : List (S32)) (r : Int) (w : World) (hr0 : Kd.C k32 w A0 l0.length l0) (hc0 : l0.length ≤ c0) (h : ententeref08_Check.f k l0 = some r) :
    Calls Tryd.prog 19 #[.slice A0 l0.length c0] w fun e w' => e = .returned (.int .i64 r) ∧ Drawn0 w w' := by
  have HR0 := Aside0.mk hr0
  have HC0 := Aside0.mk hc0
  clear hr0 hc0
  have H : (if (l0.length : Int) = 0 then (ententeref08_Check.j0 k l0 (l0.length : Int) true) else (if 0 ≤ (wrap64 ((l0.length : Int) - 1)) then (if (wrap64 ((l0.length : Int) - 1)) < (l0.length : Int) then (if ((rd_T32 l0 (wrap64 ((l0.length : Int) - 1))).f0) = 0 then (ententeref08_Check.j0 k l0 (l0.length : Int) (((rd_T32 l0 (wrap64 ((l0.length : Int) - 1))).f1).toList != ([] : List UInt8))) else (ententeref08_Check.j0 k l0 (l0.length : Int) true)) else (none)) else (none))) = some r := h
  clear h
  have HC2 := Aside0.mk H
  clear H
  go_enter Tryd.func19, Tryd.ntmps19
  go_upto_region 2 with (fail)
  repeat (go_quiet (fail); go_upto_region 2 with (fail))
  go_cut [32] (fun v32 wc => ∃ (kq : Nat) (x32_1 : Bool), v32 = .bool x32_1 ∧ Aside0 (ententeref08_Check.j0 kq l0 (l0.length : Int) x32_1 = some r) ∧ Aside0 (kq ≤ k) ∧ Drawn0 w wc)
  case first =>
    have H := HC2.out
    clear HC2
    by_cases c3 : (l0.length : Int) = 0
    · rw [if_pos c3] at H
      have c3b0 : ((l0.length : Int) == 0) = true := beq_iff_eq.mpr c3
      have c3b1 : ((l0.length : Int) != 0) = false := bne_eq_false_iff_eq.mpr c3
      clear c3
      (first | rw [c3b0] | (simp only [i64_w, i32_w]; rw [c3b0]) | skip)
      have H' := Aside0.mk H
      clear H
      go_wp2
      repeat (go_quiet (fail); try go_wp2)
      go_meet
      case rel => exact ⟨_, (true), (by first | rfl | (simp; done) | (simp [*]; done)), H', ⟨by first | omega | exact Nat.le_refl _⟩, by repeat (first | exact Drawn0.refl _ | apply Drawn0.step)⟩
    · rw [if_neg c3] at H
      have c3b0 : ((l0.length : Int) == 0) = false := beq_eq_false_iff_ne.mpr c3
      have c3b1 : ((l0.length : Int) != 0) = true := bne_iff_ne.mpr c3
      have c3b2 : ¬ (l0 = []) := fun h_ => c3 (by rw [h_]; rfl)
      (first | rw [c3b0] | (simp only [i64_w, i32_w]; rw [c3b0]) | skip)
      obtain ⟨ji4, hji4⟩ : ∃ j_ : Int, (wrap64 ((l0.length : Int) - 1)) = j_ := ⟨_, rfl⟩
      replace H : (if 0 ≤ (ji4) then (if (ji4) < (l0.length : Int) then (if ((rd_T32 l0 (ji4)).f0) = 0 then (ententeref08_Check.j0 k l0 (l0.length : Int) (((rd_T32 l0 (ji4)).f1).toList != ([] : List UInt8))) else (ententeref08_Check.j0 k l0 (l0.length : Int) true)) else (none)) else (none)) = some r := by first | (rw [hji4] at H; exact H) | (simp only [hji4] at H ⊢; exact H)
      have hji4w : (IntKind.i64.wrap ((l0.length : Int) - 1)) = ji4 := (i64_w _).trans hji4
      by_cases c5 : 0 ≤ (ji4)
      · rw [if_pos c5] at H
        have c5b0 : decide (0 ≤ (ji4)) = true := decide_eq_true c5
        clear c5
        by_cases c6 : (ji4) < (l0.length : Int)
        · rw [if_pos c6] at H
          have c6b0 : decide ((ji4) < (l0.length : Int)) = true := decide_eq_true c6
          clear c6
          by_cases c7 : ((rd_T32 l0 (ji4)).f0) = 0
          · rw [if_pos c7] at H
            have c7b0 : (((rd_T32 l0 (ji4)).f0) == 0) = true := beq_iff_eq.mpr c7
            have c7b1 : (((rd_T32 l0 (ji4)).f0) != 0) = false := bne_eq_false_iff_eq.mpr c7
            clear c7
            have H' := Aside0.mk H
            clear H
            have p219 : 0 ≤ ((ji4) : Int) := of_decide_eq_true (by first | (with_reducible assumption) | assumption)
            have q219 : (ji4) < (l0.length : Int) := of_decide_eq_true (by first | (with_reducible assumption) | assumption)
            obtain ⟨ad219, e219, hx219_0, hx219_1, hx219_2⟩ := at_T32 HR0.out (ji4) p219 q219
            cases e219
            replace p219 := eq_true p219
            replace q219 := eq_true q219
            have p220 : 0 ≤ ((ji4) : Int) := of_decide_eq_true (by first | (with_reducible assumption) | assumption)
            have q220 : (ji4) < (l0.length : Int) := of_decide_eq_true (by first | (with_reducible assumption) | assumption)
            obtain ⟨ad220, e220, hx220_0, hx220_1, hx220_2⟩ := at_T32 HR0.out (ji4) p220 q220
            obtain rfl : ad219 = ad220 := (by injection e220)
            replace p220 := eq_true p220
            replace q220 := eq_true q220
            go_wp2
            repeat (go_quiet (fail); try go_wp2)
            (first | go_meet | (simp only [← hji4]; go_meet))
            case rel => first | (exact ⟨_, ((((rd_T32 l0 (ji4)).f1).toList != ([] : List UInt8))), (by first | rfl | (simp; done) | (simp only [← hji4] <;> (first | rfl | (simp; done) | (simp; exact (fun (l_ : List UInt8) => show l_.isEmpty = !(l_ != []) from (by cases l_ <;> rfl)) _))) | (simp [*]; done)), H', ⟨by first | omega | exact Nat.le_refl _⟩, by repeat (first | exact Drawn0.refl _ | apply Drawn0.step)⟩) | (exact ⟨_, ((((rd_T32 l0 (ji4)).f1).toList != ([] : List UInt8))), (by first | rfl | (simp; done) | (simp only [← hji4] <;> (first | rfl | (simp; done) | (simp; exact (fun (l_ : List UInt8) => show l_.isEmpty = !(l_ != []) from (by cases l_ <;> rfl)) _))) | (simp [*]; done)), (by simp only [← hji4] at H' ⊢; exact H'), ⟨by first | omega | exact Nat.le_refl _⟩, by repeat (first | exact Drawn0.refl _ | apply Drawn0.step)⟩)
          · rw [if_neg c7] at H
            have c7b0 : (((rd_T32 l0 (ji4)).f0) == 0) = false := beq_eq_false_iff_ne.mpr c7
            have c7b1 : (((rd_T32 l0 (ji4)).f0) != 0) = true := bne_iff_ne.mpr c7
            have H' := Aside0.mk H
            clear H
            have p219 : 0 ≤ ((ji4) : Int) := of_decide_eq_true (by first | (with_reducible assumption) | assumption)
            have q219 : (ji4) < (l0.length : Int) := of_decide_eq_true (by first | (with_reducible assumption) | assumption)
            obtain ⟨ad219, e219, hx219_0, hx219_1, hx219_2⟩ := at_T32 HR0.out (ji4) p219 q219
            cases e219
            replace p219 := eq_true p219
            replace q219 := eq_true q219
            go_wp2
            repeat (go_quiet (fail); try go_wp2)
            (first | go_meet | (simp only [← hji4]; go_meet))
            case rel => first | (exact ⟨_, (true), (by first | rfl | (simp; done) | (simp [*]; done)), H', ⟨by first | omega | exact Nat.le_refl _⟩, by repeat (first | exact Drawn0.refl _ | apply Drawn0.step)⟩) | (exact ⟨_, (true), (by first | rfl | (simp; done) | (simp [*]; done)), (by simp only [← hji4] at H' ⊢; exact H'), ⟨by first | omega | exact Nat.le_refl _⟩, by repeat (first | exact Drawn0.refl _ | apply Drawn0.step)⟩)
        · rw [if_neg c6] at H
          exact absurd H (by simp)
      · rw [if_neg c5] at H
        exact absurd H (by simp)
  case rest =>
    clear HC2
    try clear c1
    try clear p2
    try clear q2
    try clear hx2
    try clear c3
    try clear c3b0
    try clear c3b1
    try clear c3b2
    try clear c5
    try clear c5b0
    try clear c6
    try clear c6b0
    try clear p6
    try clear c7
    try clear c7b0
    try clear c7b1
    try clear hx219_0
    try clear hx219_1
    try clear hx219_2
    try clear hx220_0
    try clear hx220_1
    try clear hx220_2
    try clear p219
    try clear p220
    try clear q219
    try clear q220
    obtain ⟨kq, x32_1, rfl, HA, HJ1, ⟨mc1, rfl⟩⟩ := hcut
    cases kq with
    | zero => exact absurd HA.out (by simp [ententeref08_Check.j0])
    | succ kj1 =>
      have H := HA.out
      clear HA
      simp only [ententeref08_Check.j0] at H
      by_cases c8 : x32_1 = true
      · subst c8
        have H1 : (some 80) = some r := by rw [if_pos rfl] at H; exact H
        clear H
        have H := H1
        clear H1
        obtain rfl := Option.some.inj H
        go_wp2
        repeat (go_quiet (fail); try go_wp2)
        go_ret
        exact ⟨by first | rfl | (simp; done) | (simp [*]; done), by repeat (first | exact Drawn0.refl _ | apply Drawn0.step)⟩
      · replace c8 := Bool.eq_false_iff.mpr c8
        subst c8
        have H1 : (ententeref08_Check.l0 kj1 l0 (l0.length : Int) 0) = some r := by rw [if_neg (show ¬ (false = true) by decide)] at H; exact H
        clear H
        have H := H1
        clear H1
        have H' := Aside0.mk H
        clear H
        go_wp2
        repeat (go_quiet (fail); try go_wp2)
        go_loopg [4] kj1 (fun kq v4 w' => ∃ (x4_2 : Int), v4 = .int .i64 x4_2 ∧ Aside0 (ententeref08_Check.l0 kq l0 (l0.length : Int) x4_2 = some r) ∧ Aside0 (kq ≤ kj1) ∧ Drawn0 w w')
        case atStart => exact ⟨(0), (by first | rfl | (simp; done) | (simp [*]; done)), H', ⟨Nat.le_refl _⟩, by repeat (first | exact Drawn0.refl _ | apply Drawn0.step)⟩
        case round =>
          clear H'
          try clear c1
          try clear p2
          try clear q2
          try clear hx2
          try clear c3
          try clear c3b0
          try clear c3b1
          try clear c3b2
          try clear c5
          try clear c5b0
          try clear c6
          try clear c6b0
          try clear p6
          try clear c7
          try clear c7b0
          try clear c7b1
          try clear c8
          try clear hx219_0
          try clear hx219_1
          try clear hx219_2
          try clear hx220_0
          try clear hx220_1
          try clear hx220_2
          try clear p2
          try clear p219
          try clear p220
          try clear p6
          try clear q2
          try clear q219
          try clear q220
          obtain ⟨x4_2, rfl, HA, HK2, ⟨m2, rfl⟩⟩ := hrel
          cases gk with
          | zero => exact absurd HA.out (by simp [ententeref08_Check.l0])
          | succ k2 =>
            have H := HA.out
            clear HA
            simp only [ententeref08_Check.l0] at H
            by_cases c9 : x4_2 < (wrap64 ((l0.length : Int) - 1))
            · rw [if_pos c9] at H
              have c9b0 : decide (x4_2 < (wrap64 ((l0.length : Int) - 1))) = true := decide_eq_true c9
              clear c9
              by_cases c10 : 0 ≤ x4_2
              · rw [if_pos c10] at H
                have c10b0 : decide (0 ≤ x4_2) = true := decide_eq_true c10
                clear c10
                by_cases c11 : x4_2 < (l0.length : Int)
                · rw [if_pos c11] at H
                  have c11b0 : decide (x4_2 < (l0.length : Int)) = true := decide_eq_true c11
                  clear c11
                  have HC12 := Aside0.mk H
                  clear H
                  have p221 : 0 ≤ (x4_2 : Int) := of_decide_eq_true (by first | (with_reducible assumption) | assumption)
                  have q221 : x4_2 < (l0.length : Int) := of_decide_eq_true (by first | (with_reducible assumption) | assumption)
                  obtain ⟨ad221, e221, hx221_0, hx221_1, hx221_2⟩ := at_T32 HR0.out x4_2 p221 q221
                  cases e221
                  replace p221 := eq_true p221
                  replace q221 := eq_true q221
                  have p222 : 0 ≤ (x4_2 : Int) := of_decide_eq_true (by first | (with_reducible assumption) | assumption)
                  have q222 : x4_2 < (l0.length : Int) := of_decide_eq_true (by first | (with_reducible assumption) | assumption)
                  obtain ⟨ad222, e222, hx222_0, hx222_1, hx222_2⟩ := at_T32 HR0.out x4_2 p222 q222
                  obtain rfl : ad221 = ad222 := (by injection e222)
                  replace p222 := eq_true p222
                  replace q222 := eq_true q222
                  go_upto_region 8 with (fail)
                  repeat (go_quiet (fail); go_upto_region 8 with (fail))
                  go_cut [7] (fun v7 wc => ∃ (kq : Nat) (x7_11 : Bool), v7 = .bool x7_11 ∧ Aside0 (ententeref08_Check.j2 kq l0 (l0.length : Int) x4_2 ((rd_T32 l0 x4_2).f0) ((rd_T32 l0 x4_2).f1) x7_11 = some r) ∧ Aside0 (kq ≤ k2) ∧ Drawn0 w wc)
                  case first =>
                    have H := HC12.out
                    clear HC12
                    by_cases c13 : ((rd_T32 l0 x4_2).f0) = 1
                    · rw [if_pos c13] at H
                      have c13b0 : (((rd_T32 l0 x4_2).f0) == 1) = true := beq_iff_eq.mpr c13
                      have c13b1 : (((rd_T32 l0 x4_2).f0) != 1) = false := bne_eq_false_iff_eq.mpr c13
                      clear c13
                      (first | rw [c13b0] | (simp only [i64_w, i32_w]; rw [c13b0]) | skip)
                      replace H := Option.bind_eq_some_iff.mp H
                      obtain ⟨t223, A140, H⟩ := H
                      replace H : (ententeref08_Check.j2 k2 l0 (l0.length : Int) x4_2 ((rd_T32 l0 x4_2).f0) ((rd_T32 l0 x4_2).f1) t223) = some r := H
                      have A14 := Aside0.mk A140
                      clear A140
                      have H' := Aside0.mk H
                      clear H
                      go_wp2_with (first | (go_at_call 24; (with_reducible refine (ententeref06_Name.calls k2 ((rd_T32 l0 x4_2).f1) t223 _ A14.out).mono ?_); rintro e w' ⟨rfl, ⟨nd, rfl⟩⟩; (try first | exact ⟨rfl, _, World.drewN_drewN _ _ _⟩ | exact ⟨rfl, _, Eq.trans (World.drewN_drewN _ _ _) (congrArg (World.drewN _) (Nat.add_assoc _ _ _))⟩)))
                      repeat (go_quiet (first | (go_at_call 24; (with_reducible refine (ententeref06_Name.calls k2 ((rd_T32 l0 x4_2).f1) t223 _ A14.out).mono ?_); rintro e w' ⟨rfl, ⟨nd, rfl⟩⟩; (try first | exact ⟨rfl, _, World.drewN_drewN _ _ _⟩ | exact ⟨rfl, _, Eq.trans (World.drewN_drewN _ _ _) (congrArg (World.drewN _) (Nat.add_assoc _ _ _))⟩))); try go_wp2_with (first | (go_at_call 24; (with_reducible refine (ententeref06_Name.calls k2 ((rd_T32 l0 x4_2).f1) t223 _ A14.out).mono ?_); rintro e w' ⟨rfl, ⟨nd, rfl⟩⟩; (try first | exact ⟨rfl, _, World.drewN_drewN _ _ _⟩ | exact ⟨rfl, _, Eq.trans (World.drewN_drewN _ _ _) (congrArg (World.drewN _) (Nat.add_assoc _ _ _))⟩))))
                      go_meet
                      case rel => exact ⟨_, (t223), (by first | rfl | (simp; done) | (simp [*]; done)), H', ⟨by have := HJ1.out; have := HK2.out; first | omega | exact Nat.le_refl _⟩, by repeat (first | exact Drawn0.refl _ | apply Drawn0.step)⟩
                    · rw [if_neg c13] at H
                      have c13b0 : (((rd_T32 l0 x4_2).f0) == 1) = false := beq_eq_false_iff_ne.mpr c13
                      have c13b1 : (((rd_T32 l0 x4_2).f0) != 1) = true := bne_iff_ne.mpr c13
                      (first | rw [c13b0] | (simp only [i64_w, i32_w]; rw [c13b0]) | skip)
                      have H' := Aside0.mk H
                      clear H
                      go_wp2
                      repeat (go_quiet (fail); try go_wp2)
                      go_meet
                      case rel => exact ⟨_, (false), (by first | rfl | (simp; done) | (simp [*]; done)), H', ⟨by have := HJ1.out; have := HK2.out; first | omega | exact Nat.le_refl _⟩, by repeat (first | exact Drawn0.refl _ | apply Drawn0.step)⟩
                  case rest =>
                    clear HC12
                    try clear c1
                    try clear p2
                    try clear q2
                    try clear hx2
                    try clear c3
                    try clear c3b0
                    try clear c3b1
                    try clear c3b2
                    try clear c5
                    try clear c5b0
                    try clear c6
                    try clear c6b0
                    try clear p6
                    try clear c7
                    try clear c7b0
                    try clear c7b1
                    try clear c8
                    try clear c9
                    try clear c9b0
                    try clear c10
                    try clear c10b0
                    try clear c11
                    try clear c11b0
                    try clear c13
                    try clear c13b0
                    try clear c13b1
                    try clear hx219_0
                    try clear hx219_1
                    try clear hx219_2
                    try clear hx220_0
                    try clear hx220_1
                    try clear hx220_2
                    try clear hx221_0
                    try clear hx221_1
                    try clear hx221_2
                    try clear hx222_0
                    try clear hx222_1
                    try clear hx222_2
                    try clear p2
                    try clear p219
                    try clear p220
                    try clear p221
                    try clear p222
                    try clear p6
                    try clear q2
                    try clear q219
                    try clear q220
                    try clear q221
                    try clear q222
                    obtain ⟨kq, x7_11, rfl, HA, HJ11, ⟨mc11, rfl⟩⟩ := hcut
                    cases kq with
                    | zero => exact absurd HA.out (by simp [ententeref08_Check.j2])
                    | succ kj11 =>
                      have H := HA.out
                      clear HA
                      simp only [ententeref08_Check.j2] at H
                      by_cases c15 : ((rd_T32 l0 x4_2).f0) = 2
                      · rw [if_pos c15] at H
                        have c15b0 : (((rd_T32 l0 x4_2).f0) == 2) = true := beq_iff_eq.mpr c15
                        have c15b1 : (((rd_T32 l0 x4_2).f0) != 2) = false := bne_eq_false_iff_eq.mpr c15
                        clear c15
                        replace H := Option.bind_eq_some_iff.mp H
                        obtain ⟨t224, A160, H⟩ := H
                        replace H : (if x7_11 = true then (ententeref08_Check.l0 kj11 l0 (l0.length : Int) (wrap64 (x4_2 + 1))) else (if t224 = true then (ententeref08_Check.l0 kj11 l0 (l0.length : Int) (wrap64 (x4_2 + 1))) else (if ((rd_T32 l0 x4_2).f0) = 3 then ((ententeref08_sign.f ((rd_T32 l0 x4_2).f1)).bind fun t225 => (if t225 = true then (ententeref08_Check.l0 kj11 l0 (l0.length : Int) (wrap64 (x4_2 + 1))) else (some 80))) else (some 80)))) = some r := H
                        have A16 := Aside0.mk A160
                        clear A160
                        by_cases c17 : x7_11 = true
                        · subst c17
                          have H1 : (ententeref08_Check.l0 kj11 l0 (l0.length : Int) (wrap64 (x4_2 + 1))) = some r := by rw [if_pos rfl] at H; exact H
                          clear H
                          have H := H1
                          clear H1
                          have H' := Aside0.mk H
                          clear H
                          go_wp2_with (first | (go_at_call 25; (with_reducible refine (ententeref08_Number.calls kj11 ((rd_T32 l0 x4_2).f1) t224 _ A16.out).mono ?_); rintro e w' ⟨rfl, ⟨nd, rfl⟩⟩; (try first | exact ⟨rfl, _, World.drewN_drewN _ _ _⟩ | exact ⟨rfl, _, Eq.trans (World.drewN_drewN _ _ _) (congrArg (World.drewN _) (Nat.add_assoc _ _ _))⟩)))
                          repeat (go_quiet (first | (go_at_call 25; (with_reducible refine (ententeref08_Number.calls kj11 ((rd_T32 l0 x4_2).f1) t224 _ A16.out).mono ?_); rintro e w' ⟨rfl, ⟨nd, rfl⟩⟩; (try first | exact ⟨rfl, _, World.drewN_drewN _ _ _⟩ | exact ⟨rfl, _, Eq.trans (World.drewN_drewN _ _ _) (congrArg (World.drewN _) (Nat.add_assoc _ _ _))⟩))); try go_wp2_with (first | (go_at_call 25; (with_reducible refine (ententeref08_Number.calls kj11 ((rd_T32 l0 x4_2).f1) t224 _ A16.out).mono ?_); rintro e w' ⟨rfl, ⟨nd, rfl⟩⟩; (try first | exact ⟨rfl, _, World.drewN_drewN _ _ _⟩ | exact ⟨rfl, _, Eq.trans (World.drewN_drewN _ _ _) (congrArg (World.drewN _) (Nat.add_assoc _ _ _))⟩))))
                          go_roundg kj11
                          case measure => have := HJ1.out; have := HK2.out; have := HJ11.out; omega
                          case rel => exact ⟨(wrap64 (x4_2 + 1)), (by first | rfl | (simp; done) | (simp [*]; done)), H', ⟨by have := HJ1.out; have := HK2.out; have := HJ11.out; omega⟩, by repeat (first | exact Drawn0.refl _ | apply Drawn0.step)⟩
                        · replace c17 := Bool.eq_false_iff.mpr c17
                          subst c17
                          have H1 : (if t224 = true then (ententeref08_Check.l0 kj11 l0 (l0.length : Int) (wrap64 (x4_2 + 1))) else (if ((rd_T32 l0 x4_2).f0) = 3 then ((ententeref08_sign.f ((rd_T32 l0 x4_2).f1)).bind fun t225 => (if t225 = true then (ententeref08_Check.l0 kj11 l0 (l0.length : Int) (wrap64 (x4_2 + 1))) else (some 80))) else (some 80))) = some r := by rw [if_neg (show ¬ (false = true) by decide)] at H; exact H
                          clear H
                          have H := H1
                          clear H1
                          by_cases c18 : t224 = true
                          · subst c18
                            have H1 : (ententeref08_Check.l0 kj11 l0 (l0.length : Int) (wrap64 (x4_2 + 1))) = some r := by rw [if_pos rfl] at H; exact H
                            clear H
                            have H := H1
                            clear H1
                            have H' := Aside0.mk H
                            clear H
                            go_wp2_with (first | (go_at_call 25; (with_reducible refine (ententeref08_Number.calls kj11 ((rd_T32 l0 x4_2).f1) true _ A16.out).mono ?_); rintro e w' ⟨rfl, ⟨nd, rfl⟩⟩; (try first | exact ⟨rfl, _, World.drewN_drewN _ _ _⟩ | exact ⟨rfl, _, Eq.trans (World.drewN_drewN _ _ _) (congrArg (World.drewN _) (Nat.add_assoc _ _ _))⟩)))
                            repeat (go_quiet (first | (go_at_call 25; (with_reducible refine (ententeref08_Number.calls kj11 ((rd_T32 l0 x4_2).f1) true _ A16.out).mono ?_); rintro e w' ⟨rfl, ⟨nd, rfl⟩⟩; (try first | exact ⟨rfl, _, World.drewN_drewN _ _ _⟩ | exact ⟨rfl, _, Eq.trans (World.drewN_drewN _ _ _) (congrArg (World.drewN _) (Nat.add_assoc _ _ _))⟩))); try go_wp2_with (first | (go_at_call 25; (with_reducible refine (ententeref08_Number.calls kj11 ((rd_T32 l0 x4_2).f1) true _ A16.out).mono ?_); rintro e w' ⟨rfl, ⟨nd, rfl⟩⟩; (try first | exact ⟨rfl, _, World.drewN_drewN _ _ _⟩ | exact ⟨rfl, _, Eq.trans (World.drewN_drewN _ _ _) (congrArg (World.drewN _) (Nat.add_assoc _ _ _))⟩))))
                            go_roundg kj11
                            case measure => have := HJ1.out; have := HK2.out; have := HJ11.out; omega
                            case rel => exact ⟨(wrap64 (x4_2 + 1)), (by first | rfl | (simp; done) | (simp [*]; done)), H', ⟨by have := HJ1.out; have := HK2.out; have := HJ11.out; omega⟩, by repeat (first | exact Drawn0.refl _ | apply Drawn0.step)⟩
                          · replace c18 := Bool.eq_false_iff.mpr c18
                            subst c18
                            have H1 : (if ((rd_T32 l0 x4_2).f0) = 3 then ((ententeref08_sign.f ((rd_T32 l0 x4_2).f1)).bind fun t225 => (if t225 = true then (ententeref08_Check.l0 kj11 l0 (l0.length : Int) (wrap64 (x4_2 + 1))) else (some 80))) else (some 80)) = some r := by rw [if_neg (show ¬ (false = true) by decide)] at H; exact H
                            clear H
                            have H := H1
                            clear H1
                            by_cases c19 : ((rd_T32 l0 x4_2).f0) = 3
                            · rw [if_pos c19] at H
                              have c19b0 : (((rd_T32 l0 x4_2).f0) == 3) = true := beq_iff_eq.mpr c19
                              have c19b1 : (((rd_T32 l0 x4_2).f0) != 3) = false := bne_eq_false_iff_eq.mpr c19
                              clear c19
                              replace H := Option.bind_eq_some_iff.mp H
                              obtain ⟨t225, A200, H⟩ := H
                              replace H : (if t225 = true then (ententeref08_Check.l0 kj11 l0 (l0.length : Int) (wrap64 (x4_2 + 1))) else (some 80)) = some r := H
                              have A20 := Aside0.mk A200
                              clear A200
                              by_cases c21 : t225 = true
                              · subst c21
                                have H1 : (ententeref08_Check.l0 kj11 l0 (l0.length : Int) (wrap64 (x4_2 + 1))) = some r := by rw [if_pos rfl] at H; exact H
                                clear H
                                have H := H1
                                clear H1
                                have H' := Aside0.mk H
                                clear H
                                go_wp2_with (first | (go_at_call 25; (with_reducible refine (ententeref08_Number.calls kj11 ((rd_T32 l0 x4_2).f1) false _ A16.out).mono ?_); rintro e w' ⟨rfl, ⟨nd, rfl⟩⟩; (try first | exact ⟨rfl, _, World.drewN_drewN _ _ _⟩ | exact ⟨rfl, _, Eq.trans (World.drewN_drewN _ _ _) (congrArg (World.drewN _) (Nat.add_assoc _ _ _))⟩)) | (go_at_call 26; (with_reducible refine (ententeref08_sign.calls ((rd_T32 l0 x4_2).f1) true _ A20.out).mono ?_); rintro e w' ⟨rfl, ⟨nd, rfl⟩⟩; (try first | exact ⟨rfl, _, World.drewN_drewN _ _ _⟩ | exact ⟨rfl, _, Eq.trans (World.drewN_drewN _ _ _) (congrArg (World.drewN _) (Nat.add_assoc _ _ _))⟩)))
                                repeat (go_quiet (first | (go_at_call 25; (with_reducible refine (ententeref08_Number.calls kj11 ((rd_T32 l0 x4_2).f1) false _ A16.out).mono ?_); rintro e w' ⟨rfl, ⟨nd, rfl⟩⟩; (try first | exact ⟨rfl, _, World.drewN_drewN _ _ _⟩ | exact ⟨rfl, _, Eq.trans (World.drewN_drewN _ _ _) (congrArg (World.drewN _) (Nat.add_assoc _ _ _))⟩)) | (go_at_call 26; (with_reducible refine (ententeref08_sign.calls ((rd_T32 l0 x4_2).f1) true _ A20.out).mono ?_); rintro e w' ⟨rfl, ⟨nd, rfl⟩⟩; (try first | exact ⟨rfl, _, World.drewN_drewN _ _ _⟩ | exact ⟨rfl, _, Eq.trans (World.drewN_drewN _ _ _) (congrArg (World.drewN _) (Nat.add_assoc _ _ _))⟩))); try go_wp2_with (first | (go_at_call 25; (with_reducible refine (ententeref08_Number.calls kj11 ((rd_T32 l0 x4_2).f1) false _ A16.out).mono ?_); rintro e w' ⟨rfl, ⟨nd, rfl⟩⟩; (try first | exact ⟨rfl, _, World.drewN_drewN _ _ _⟩ | exact ⟨rfl, _, Eq.trans (World.drewN_drewN _ _ _) (congrArg (World.drewN _) (Nat.add_assoc _ _ _))⟩)) | (go_at_call 26; (with_reducible refine (ententeref08_sign.calls ((rd_T32 l0 x4_2).f1) true _ A20.out).mono ?_); rintro e w' ⟨rfl, ⟨nd, rfl⟩⟩; (try first | exact ⟨rfl, _, World.drewN_drewN _ _ _⟩ | exact ⟨rfl, _, Eq.trans (World.drewN_drewN _ _ _) (congrArg (World.drewN _) (Nat.add_assoc _ _ _))⟩))))
                                go_roundg kj11
                                case measure => have := HJ1.out; have := HK2.out; have := HJ11.out; omega
                                case rel => exact ⟨(wrap64 (x4_2 + 1)), (by first | rfl | (simp; done) | (simp [*]; done)), H', ⟨by have := HJ1.out; have := HK2.out; have := HJ11.out; omega⟩, by repeat (first | exact Drawn0.refl _ | apply Drawn0.step)⟩
                              · replace c21 := Bool.eq_false_iff.mpr c21
                                subst c21
                                have H1 : (some 80) = some r := by rw [if_neg (show ¬ (false = true) by decide)] at H; exact H
                                clear H
                                have H := H1
                                clear H1
                                obtain rfl := Option.some.inj H
                                go_wp2_with (first | (go_at_call 25; (with_reducible refine (ententeref08_Number.calls kj11 ((rd_T32 l0 x4_2).f1) false _ A16.out).mono ?_); rintro e w' ⟨rfl, ⟨nd, rfl⟩⟩; (try first | exact ⟨rfl, _, World.drewN_drewN _ _ _⟩ | exact ⟨rfl, _, Eq.trans (World.drewN_drewN _ _ _) (congrArg (World.drewN _) (Nat.add_assoc _ _ _))⟩)) | (go_at_call 26; (with_reducible refine (ententeref08_sign.calls ((rd_T32 l0 x4_2).f1) false _ A20.out).mono ?_); rintro e w' ⟨rfl, ⟨nd, rfl⟩⟩; (try first | exact ⟨rfl, _, World.drewN_drewN _ _ _⟩ | exact ⟨rfl, _, Eq.trans (World.drewN_drewN _ _ _) (congrArg (World.drewN _) (Nat.add_assoc _ _ _))⟩)))
                                repeat (go_quiet (first | (go_at_call 25; (with_reducible refine (ententeref08_Number.calls kj11 ((rd_T32 l0 x4_2).f1) false _ A16.out).mono ?_); rintro e w' ⟨rfl, ⟨nd, rfl⟩⟩; (try first | exact ⟨rfl, _, World.drewN_drewN _ _ _⟩ | exact ⟨rfl, _, Eq.trans (World.drewN_drewN _ _ _) (congrArg (World.drewN _) (Nat.add_assoc _ _ _))⟩)) | (go_at_call 26; (with_reducible refine (ententeref08_sign.calls ((rd_T32 l0 x4_2).f1) false _ A20.out).mono ?_); rintro e w' ⟨rfl, ⟨nd, rfl⟩⟩; (try first | exact ⟨rfl, _, World.drewN_drewN _ _ _⟩ | exact ⟨rfl, _, Eq.trans (World.drewN_drewN _ _ _) (congrArg (World.drewN _) (Nat.add_assoc _ _ _))⟩))); try go_wp2_with (first | (go_at_call 25; (with_reducible refine (ententeref08_Number.calls kj11 ((rd_T32 l0 x4_2).f1) false _ A16.out).mono ?_); rintro e w' ⟨rfl, ⟨nd, rfl⟩⟩; (try first | exact ⟨rfl, _, World.drewN_drewN _ _ _⟩ | exact ⟨rfl, _, Eq.trans (World.drewN_drewN _ _ _) (congrArg (World.drewN _) (Nat.add_assoc _ _ _))⟩)) | (go_at_call 26; (with_reducible refine (ententeref08_sign.calls ((rd_T32 l0 x4_2).f1) false _ A20.out).mono ?_); rintro e w' ⟨rfl, ⟨nd, rfl⟩⟩; (try first | exact ⟨rfl, _, World.drewN_drewN _ _ _⟩ | exact ⟨rfl, _, Eq.trans (World.drewN_drewN _ _ _) (congrArg (World.drewN _) (Nat.add_assoc _ _ _))⟩))))
                                go_ret
                                exact ⟨by first | rfl | (simp; done) | (simp [*]; done), by repeat (first | exact Drawn0.refl _ | apply Drawn0.step)⟩
                            · rw [if_neg c19] at H
                              have c19b0 : (((rd_T32 l0 x4_2).f0) == 3) = false := beq_eq_false_iff_ne.mpr c19
                              have c19b1 : (((rd_T32 l0 x4_2).f0) != 3) = true := bne_iff_ne.mpr c19
                              obtain rfl := Option.some.inj H
                              go_wp2_with (first | (go_at_call 25; (with_reducible refine (ententeref08_Number.calls kj11 ((rd_T32 l0 x4_2).f1) false _ A16.out).mono ?_); rintro e w' ⟨rfl, ⟨nd, rfl⟩⟩; (try first | exact ⟨rfl, _, World.drewN_drewN _ _ _⟩ | exact ⟨rfl, _, Eq.trans (World.drewN_drewN _ _ _) (congrArg (World.drewN _) (Nat.add_assoc _ _ _))⟩)))
                              repeat (go_quiet (first | (go_at_call 25; (with_reducible refine (ententeref08_Number.calls kj11 ((rd_T32 l0 x4_2).f1) false _ A16.out).mono ?_); rintro e w' ⟨rfl, ⟨nd, rfl⟩⟩; (try first | exact ⟨rfl, _, World.drewN_drewN _ _ _⟩ | exact ⟨rfl, _, Eq.trans (World.drewN_drewN _ _ _) (congrArg (World.drewN _) (Nat.add_assoc _ _ _))⟩))); try go_wp2_with (first | (go_at_call 25; (with_reducible refine (ententeref08_Number.calls kj11 ((rd_T32 l0 x4_2).f1) false _ A16.out).mono ?_); rintro e w' ⟨rfl, ⟨nd, rfl⟩⟩; (try first | exact ⟨rfl, _, World.drewN_drewN _ _ _⟩ | exact ⟨rfl, _, Eq.trans (World.drewN_drewN _ _ _) (congrArg (World.drewN _) (Nat.add_assoc _ _ _))⟩))))
                              go_ret
                              exact ⟨by first | rfl | (simp; done) | (simp [*]; done), by repeat (first | exact Drawn0.refl _ | apply Drawn0.step)⟩
                      · rw [if_neg c15] at H
                        have c15b0 : (((rd_T32 l0 x4_2).f0) == 2) = false := beq_eq_false_iff_ne.mpr c15
                        have c15b1 : (((rd_T32 l0 x4_2).f0) != 2) = true := bne_iff_ne.mpr c15
                        by_cases c22 : x7_11 = true
                        · subst c22
                          have H1 : (ententeref08_Check.l0 kj11 l0 (l0.length : Int) (wrap64 (x4_2 + 1))) = some r := by rw [if_pos rfl] at H; exact H
                          clear H
                          have H := H1
                          clear H1
                          have H' := Aside0.mk H
                          clear H
                          go_wp2
                          repeat (go_quiet (fail); try go_wp2)
                          go_roundg kj11
                          case measure => have := HJ1.out; have := HK2.out; have := HJ11.out; omega
                          case rel => exact ⟨(wrap64 (x4_2 + 1)), (by first | rfl | (simp; done) | (simp [*]; done)), H', ⟨by have := HJ1.out; have := HK2.out; have := HJ11.out; omega⟩, by repeat (first | exact Drawn0.refl _ | apply Drawn0.step)⟩
                        · replace c22 := Bool.eq_false_iff.mpr c22
                          subst c22
                          have H1 : (if ((rd_T32 l0 x4_2).f0) = 3 then ((ententeref08_sign.f ((rd_T32 l0 x4_2).f1)).bind fun t226 => (if t226 = true then (ententeref08_Check.l0 kj11 l0 (l0.length : Int) (wrap64 (x4_2 + 1))) else (some 80))) else (some 80)) = some r := by rw [if_neg (show ¬ (false = true) by decide)] at H; exact H
                          clear H
                          have H := H1
                          clear H1
                          by_cases c23 : ((rd_T32 l0 x4_2).f0) = 3
                          · rw [if_pos c23] at H
                            have c23b0 : (((rd_T32 l0 x4_2).f0) == 3) = true := beq_iff_eq.mpr c23
                            have c23b1 : (((rd_T32 l0 x4_2).f0) != 3) = false := bne_eq_false_iff_eq.mpr c23
                            clear c23
                            replace H := Option.bind_eq_some_iff.mp H
                            obtain ⟨t226, A240, H⟩ := H
                            replace H : (if t226 = true then (ententeref08_Check.l0 kj11 l0 (l0.length : Int) (wrap64 (x4_2 + 1))) else (some 80)) = some r := H
                            have A24 := Aside0.mk A240
                            clear A240
                            by_cases c25 : t226 = true
                            · subst c25
                              have H1 : (ententeref08_Check.l0 kj11 l0 (l0.length : Int) (wrap64 (x4_2 + 1))) = some r := by rw [if_pos rfl] at H; exact H
                              clear H
                              have H := H1
                              clear H1
                              have H' := Aside0.mk H
                              clear H
                              go_wp2_with (first | (go_at_call 26; (with_reducible refine (ententeref08_sign.calls ((rd_T32 l0 x4_2).f1) true _ A24.out).mono ?_); rintro e w' ⟨rfl, ⟨nd, rfl⟩⟩; (try first | exact ⟨rfl, _, World.drewN_drewN _ _ _⟩ | exact ⟨rfl, _, Eq.trans (World.drewN_drewN _ _ _) (congrArg (World.drewN _) (Nat.add_assoc _ _ _))⟩)))
                              repeat (go_quiet (first | (go_at_call 26; (with_reducible refine (ententeref08_sign.calls ((rd_T32 l0 x4_2).f1) true _ A24.out).mono ?_); rintro e w' ⟨rfl, ⟨nd, rfl⟩⟩; (try first | exact ⟨rfl, _, World.drewN_drewN _ _ _⟩ | exact ⟨rfl, _, Eq.trans (World.drewN_drewN _ _ _) (congrArg (World.drewN _) (Nat.add_assoc _ _ _))⟩))); try go_wp2_with (first | (go_at_call 26; (with_reducible refine (ententeref08_sign.calls ((rd_T32 l0 x4_2).f1) true _ A24.out).mono ?_); rintro e w' ⟨rfl, ⟨nd, rfl⟩⟩; (try first | exact ⟨rfl, _, World.drewN_drewN _ _ _⟩ | exact ⟨rfl, _, Eq.trans (World.drewN_drewN _ _ _) (congrArg (World.drewN _) (Nat.add_assoc _ _ _))⟩))))
                              go_roundg kj11
                              case measure => have := HJ1.out; have := HK2.out; have := HJ11.out; omega
                              case rel => exact ⟨(wrap64 (x4_2 + 1)), (by first | rfl | (simp; done) | (simp [*]; done)), H', ⟨by have := HJ1.out; have := HK2.out; have := HJ11.out; omega⟩, by repeat (first | exact Drawn0.refl _ | apply Drawn0.step)⟩
                            · replace c25 := Bool.eq_false_iff.mpr c25
                              subst c25
                              have H1 : (some 80) = some r := by rw [if_neg (show ¬ (false = true) by decide)] at H; exact H
                              clear H
                              have H := H1
                              clear H1
                              obtain rfl := Option.some.inj H
                              go_wp2_with (first | (go_at_call 26; (with_reducible refine (ententeref08_sign.calls ((rd_T32 l0 x4_2).f1) false _ A24.out).mono ?_); rintro e w' ⟨rfl, ⟨nd, rfl⟩⟩; (try first | exact ⟨rfl, _, World.drewN_drewN _ _ _⟩ | exact ⟨rfl, _, Eq.trans (World.drewN_drewN _ _ _) (congrArg (World.drewN _) (Nat.add_assoc _ _ _))⟩)))
                              repeat (go_quiet (first | (go_at_call 26; (with_reducible refine (ententeref08_sign.calls ((rd_T32 l0 x4_2).f1) false _ A24.out).mono ?_); rintro e w' ⟨rfl, ⟨nd, rfl⟩⟩; (try first | exact ⟨rfl, _, World.drewN_drewN _ _ _⟩ | exact ⟨rfl, _, Eq.trans (World.drewN_drewN _ _ _) (congrArg (World.drewN _) (Nat.add_assoc _ _ _))⟩))); try go_wp2_with (first | (go_at_call 26; (with_reducible refine (ententeref08_sign.calls ((rd_T32 l0 x4_2).f1) false _ A24.out).mono ?_); rintro e w' ⟨rfl, ⟨nd, rfl⟩⟩; (try first | exact ⟨rfl, _, World.drewN_drewN _ _ _⟩ | exact ⟨rfl, _, Eq.trans (World.drewN_drewN _ _ _) (congrArg (World.drewN _) (Nat.add_assoc _ _ _))⟩))))
                              go_ret
                              exact ⟨by first | rfl | (simp; done) | (simp [*]; done), by repeat (first | exact Drawn0.refl _ | apply Drawn0.step)⟩
                          · rw [if_neg c23] at H
                            have c23b0 : (((rd_T32 l0 x4_2).f0) == 3) = false := beq_eq_false_iff_ne.mpr c23
                            have c23b1 : (((rd_T32 l0 x4_2).f0) != 3) = true := bne_iff_ne.mpr c23
                            obtain rfl := Option.some.inj H
                            go_wp2
                            repeat (go_quiet (fail); try go_wp2)
                            go_ret
                            exact ⟨by first | rfl | (simp; done) | (simp [*]; done), by repeat (first | exact Drawn0.refl _ | apply Drawn0.step)⟩
                · rw [if_neg c11] at H
                  exact absurd H (by simp)
              · rw [if_neg c10] at H
                exact absurd H (by simp)
            · rw [if_neg c9] at H
              have c9b0 : decide (x4_2 < (wrap64 ((l0.length : Int) - 1))) = false := decide_eq_false c9
              clear c9
              have H' := Aside0.mk H
              clear H
              go_wp2
              repeat (go_quiet (fail); try go_wp2)
              go_loopg [9, 10] k2 (fun kq v9 v10 w' => ∃ (x9_3 : Int) (x10_3 : Int), v9 = .int .i64 x9_3 ∧ v10 = .int .i64 x10_3 ∧ Aside0 (ententeref08_Check.l1 kq l0 (l0.length : Int) x9_3 x10_3 = some r) ∧ Aside0 (kq ≤ k2) ∧ Drawn0 w w')
              case atStart => exact ⟨(0), (0), (by first | rfl | (simp; done) | (simp [*]; done)), (by first | rfl | (simp; done) | (simp [*]; done)), H', ⟨Nat.le_refl _⟩, by repeat (first | exact Drawn0.refl _ | apply Drawn0.step)⟩
              case round =>
                clear H'
                try clear c1
                try clear c2
                try clear p2
                try clear q2
                try clear hx2
                try clear c3
                try clear c3b0
                try clear c3b1
                try clear c3b2
                try clear c5
                try clear c5b0
                try clear c6
                try clear c6b0
                try clear p6
                try clear c7
                try clear c7b0
                try clear c7b1
                try clear c8
                try clear c9
                try clear c9b0
                try clear c10
                try clear c10b0
                try clear c11
                try clear c11b0
                try clear c13
                try clear c13b0
                try clear c13b1
                try clear c15
                try clear c15b0
                try clear c15b1
                try clear c17
                try clear c18
                try clear c19
                try clear c19b0
                try clear c19b1
                try clear c21
                try clear p21
                try clear q21
                try clear hx21
                try clear c22
                try clear p22
                try clear q22
                try clear hx22
                try clear c23
                try clear c23b0
                try clear c23b1
                try clear c25
                try clear hx219_0
                try clear hx219_1
                try clear hx219_2
                try clear hx220_0
                try clear hx220_1
                try clear hx220_2
                try clear hx221_0
                try clear hx221_1
                try clear hx221_2
                try clear hx222_0
                try clear hx222_1
                try clear hx222_2
                try clear p2
                try clear p219
                try clear p220
                try clear p221
                try clear p222
                try clear p6
                try clear q2
                try clear q219
                try clear q220
                try clear q221
                try clear q222
                obtain ⟨x9_3, x10_3, rfl, rfl, HA, HK3, ⟨m3, rfl⟩⟩ := hrel
                cases gk with
                | zero => exact absurd HA.out (by simp [ententeref08_Check.l1])
                | succ k3 =>
                  have H := HA.out
                  clear HA
                  simp only [ententeref08_Check.l1] at H
                  have HC26 := Aside0.mk H
                  clear H
                  go_upto_region 14 with (fail)
                  repeat (go_quiet (fail); go_upto_region 14 with (fail))
                  go_cut [83] (fun v83 wc => ∃ (kq : Nat) (x83_25 : Bool), v83 = .bool x83_25 ∧ Aside0 (ententeref08_Check.j4 kq l0 (l0.length : Int) x9_3 x10_3 x83_25 = some r) ∧ Aside0 (kq ≤ k3) ∧ Drawn0 w wc)
                  case first =>
                    have H := HC26.out
                    clear HC26
                    by_cases c27 : x10_3 < (wrap64 ((l0.length : Int) - 1))
                    · rw [if_pos c27] at H
                      have c27b0 : decide (x10_3 < (wrap64 ((l0.length : Int) - 1))) = true := decide_eq_true c27
                      clear c27
                      (first | rw [c27b0] | (simp only [i64_w, i32_w]; rw [c27b0]) | skip)
                      have H' := Aside0.mk H
                      clear H
                      go_wp2
                      repeat (go_quiet (fail); try go_wp2)
                      go_meet
                      case rel => exact ⟨_, (decide (x9_3 ≤ 2000)), (by first | rfl | (simp; done) | (simp [*]; done)), H', ⟨by have := HJ1.out; have := HK2.out; have := HK3.out; first | omega | exact Nat.le_refl _⟩, by repeat (first | exact Drawn0.refl _ | apply Drawn0.step)⟩
                    · rw [if_neg c27] at H
                      have c27b0 : decide (x10_3 < (wrap64 ((l0.length : Int) - 1))) = false := decide_eq_false c27
                      clear c27
                      (first | rw [c27b0] | (simp only [i64_w, i32_w]; rw [c27b0]) | skip)
                      have H' := Aside0.mk H
                      clear H
                      go_wp2
                      repeat (go_quiet (fail); try go_wp2)
                      go_meet
                      case rel => exact ⟨_, (false), (by first | rfl | (simp; done) | (simp [*]; done)), H', ⟨by have := HJ1.out; have := HK2.out; have := HK3.out; first | omega | exact Nat.le_refl _⟩, by repeat (first | exact Drawn0.refl _ | apply Drawn0.step)⟩
                  case rest =>
                    clear HC26
                    try clear c1
                    try clear c2
                    try clear p2
                    try clear q2
                    try clear hx2
                    try clear c3
                    try clear c3b0
                    try clear c3b1
                    try clear c3b2
                    try clear c5
                    try clear c5b0
                    try clear c6
                    try clear c6b0
                    try clear p6
                    try clear c7
                    try clear c7b0
                    try clear c7b1
                    try clear c8
                    try clear c9
                    try clear c9b0
                    try clear c10
                    try clear c10b0
                    try clear c11
                    try clear c11b0
                    try clear c13
                    try clear c13b0
                    try clear c13b1
                    try clear c15
                    try clear c15b0
                    try clear c15b1
                    try clear c17
                    try clear c18
                    try clear c19
                    try clear c19b0
                    try clear c19b1
                    try clear c21
                    try clear p21
                    try clear q21
                    try clear hx21
                    try clear c22
                    try clear p22
                    try clear q22
                    try clear hx22
                    try clear c23
                    try clear c23b0
                    try clear c23b1
                    try clear c25
                    try clear c27
                    try clear c27b0
                    try clear hx219_0
                    try clear hx219_1
                    try clear hx219_2
                    try clear hx220_0
                    try clear hx220_1
                    try clear hx220_2
                    try clear hx221_0
                    try clear hx221_1
                    try clear hx221_2
                    try clear hx222_0
                    try clear hx222_1
                    try clear hx222_2
                    try clear p2
                    try clear p21
                    try clear p219
                    try clear p22
                    try clear p220
                    try clear p221
                    try clear p222
                    try clear p6
                    try clear q2
                    try clear q21
                    try clear q219
                    try clear q22
                    try clear q220
                    try clear q221
                    try clear q222
                    obtain ⟨kq, x83_25, rfl, HA, HJ25, ⟨mc25, rfl⟩⟩ := hcut
                    cases kq with
                    | zero => exact absurd HA.out (by simp [ententeref08_Check.j4])
                    | succ kj25 =>
                      have H := HA.out
                      clear HA
                      simp only [ententeref08_Check.j4] at H
                      by_cases c28 : x83_25 = true
                      · subst c28
                        have H1 : (if x10_3 > 0 then (if 0 ≤ x10_3 then (if x10_3 < (l0.length : Int) then (ententeref08_Check.l1 kj25 l0 (l0.length : Int) (wrap64 ((wrap64 (x9_3 + 1)) + (((rd_T32 l0 x10_3).f1).size : Int))) (wrap64 (x10_3 + 1))) else (none)) else (none)) else (if 0 ≤ x10_3 then (if x10_3 < (l0.length : Int) then (ententeref08_Check.l1 kj25 l0 (l0.length : Int) (wrap64 (x9_3 + (((rd_T32 l0 x10_3).f1).size : Int))) (wrap64 (x10_3 + 1))) else (none)) else (none))) = some r := by rw [if_pos rfl] at H; exact H
                        clear H
                        have H := H1
                        clear H1
                        by_cases c29 : x10_3 > 0
                        · rw [if_pos c29] at H
                          have c29b0 : decide (0 < x10_3) = true := decide_eq_true c29
                          clear c29
                          by_cases c30 : 0 ≤ x10_3
                          · rw [if_pos c30] at H
                            have c30b0 : decide (0 ≤ x10_3) = true := decide_eq_true c30
                            clear c30
                            by_cases c31 : x10_3 < (l0.length : Int)
                            · rw [if_pos c31] at H
                              have c31b0 : decide (x10_3 < (l0.length : Int)) = true := decide_eq_true c31
                              clear c31
                              have H' := Aside0.mk H
                              clear H
                              have p227 : 0 ≤ (x10_3 : Int) := of_decide_eq_true (by first | (with_reducible assumption) | assumption)
                              have q227 : x10_3 < (l0.length : Int) := of_decide_eq_true (by first | (with_reducible assumption) | assumption)
                              obtain ⟨ad227, e227, hx227_0, hx227_1, hx227_2⟩ := at_T32 HR0.out x10_3 p227 q227
                              cases e227
                              replace p227 := eq_true p227
                              replace q227 := eq_true q227
                              go_wp2
                              repeat (go_quiet (fail); try go_wp2)
                              go_roundg kj25
                              case measure => have := HJ1.out; have := HK2.out; have := HK3.out; have := HJ25.out; omega
                              case rel => exact ⟨(wrap64 ((wrap64 (x9_3 + 1)) + (((rd_T32 l0 x10_3).f1).size : Int))), (wrap64 (x10_3 + 1)), (by first | rfl | (simp; done) | (simp [*]; done)), (by first | rfl | (simp; done) | (simp [*]; done)), H', ⟨by have := HJ1.out; have := HK2.out; have := HK3.out; have := HJ25.out; omega⟩, by repeat (first | exact Drawn0.refl _ | apply Drawn0.step)⟩
                            · rw [if_neg c31] at H
                              exact absurd H (by simp)
                          · rw [if_neg c30] at H
                            exact absurd H (by simp)
                        · rw [if_neg c29] at H
                          have c29b0 : decide (0 < x10_3) = false := decide_eq_false c29
                          clear c29
                          by_cases c32 : 0 ≤ x10_3
                          · rw [if_pos c32] at H
                            have c32b0 : decide (0 ≤ x10_3) = true := decide_eq_true c32
                            clear c32
                            by_cases c33 : x10_3 < (l0.length : Int)
                            · rw [if_pos c33] at H
                              have c33b0 : decide (x10_3 < (l0.length : Int)) = true := decide_eq_true c33
                              clear c33
                              have H' := Aside0.mk H
                              clear H
                              have p228 : 0 ≤ (x10_3 : Int) := of_decide_eq_true (by first | (with_reducible assumption) | assumption)
                              have q228 : x10_3 < (l0.length : Int) := of_decide_eq_true (by first | (with_reducible assumption) | assumption)
                              obtain ⟨ad228, e228, hx228_0, hx228_1, hx228_2⟩ := at_T32 HR0.out x10_3 p228 q228
                              cases e228
                              replace p228 := eq_true p228
                              replace q228 := eq_true q228
                              go_wp2
                              repeat (go_quiet (fail); try go_wp2)
                              go_roundg kj25
                              case measure => have := HJ1.out; have := HK2.out; have := HK3.out; have := HJ25.out; omega
                              case rel => exact ⟨(wrap64 (x9_3 + (((rd_T32 l0 x10_3).f1).size : Int))), (wrap64 (x10_3 + 1)), (by first | rfl | (simp; done) | (simp [*]; done)), (by first | rfl | (simp; done) | (simp [*]; done)), H', ⟨by have := HJ1.out; have := HK2.out; have := HK3.out; have := HJ25.out; omega⟩, by repeat (first | exact Drawn0.refl _ | apply Drawn0.step)⟩
                            · rw [if_neg c33] at H
                              exact absurd H (by simp)
                          · rw [if_neg c32] at H
                            exact absurd H (by simp)
                      · replace c28 := Bool.eq_false_iff.mpr c28
                        subst c28
                        have H1 : (if x9_3 > 2000 then (some 3) else (some 0)) = some r := by rw [if_neg (show ¬ (false = true) by decide)] at H; exact H
                        clear H
                        have H := H1
                        clear H1
                        by_cases c34 : x9_3 > 2000
                        · rw [if_pos c34] at H
                          have c34b0 : decide (2000 < x9_3) = true := decide_eq_true c34
                          clear c34
                          obtain rfl := Option.some.inj H
                          go_wp2
                          repeat (go_quiet (fail); try go_wp2)
                          go_ret
                          exact ⟨by first | rfl | (simp; done) | (simp [*]; done), by repeat (first | exact Drawn0.refl _ | apply Drawn0.step)⟩
                        · rw [if_neg c34] at H
                          have c34b0 : decide (2000 < x9_3) = false := decide_eq_false c34
                          clear c34
                          obtain rfl := Option.some.inj H
                          go_wp2
                          repeat (go_quiet (fail); try go_wp2)
                          go_ret
                          exact ⟨by first | rfl | (simp; done) | (simp [*]; done), by repeat (first | exact Drawn0.refl _ | apply Drawn0.step)⟩

end Go.Proofs.YtghpbcfkldbpjabDoor.PL

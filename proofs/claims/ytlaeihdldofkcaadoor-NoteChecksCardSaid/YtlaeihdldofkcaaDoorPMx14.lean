/- The machine side of this seat's laws: plain functions, and proofs that the calls do what they say; written by a program of this session over the translation; no conditions beyond those typed. -/
import Derived.Test.YtlaeihdldofkcaaDoorPMx0
import Derived.Test.YtlaeihdldofkcaaDoorPMx13
namespace Go.Proofs.YtlaeihdldofkcaaDoor.PN
open Go.RowKit Go.Proofs.YtlaeihdldofkcaaDoorW.PrintWords Go.Proofs.YtlaeihdldofkcaaDoorW.PrintLast Go.Proofs.YtlaeihdldofkcaaDoorW.PrintMore
attribute [local go_sem] max2_int min2_int max_two min_two max_three min_three max_four min_four   -- for this text's walks alone
set_option linter.unusedVariables false
set_option linter.unusedSimpArgs false

/-! ### ententeref13_Ends: function 9 -/
def ententeref13_Ends.f (k : Nat) (a0_0 : Int) (a0_1 : Int) (a0_2 : Int) (l0_3 : List (S50)) (a0_4 : ByteArray) (a0_5 : Int) : Option (Int × Int) := (ententeref13_Check.f k a0_0 a0_1 a0_2 l0_3 a0_4 a0_5).bind fun t342 => (if t342 = 0 then ((ententeref03_Path.f k a0_1 a0_2 l0_3).bind fun t343 => (if 0 ≤ (wrap64 ((t343.length : Int) - 2)) then (if (wrap64 ((t343.length : Int) - 2)) < (t343.length : Int) then (if 0 ≤ (wrap64 ((t343.length : Int) - 1)) then (if (wrap64 ((t343.length : Int) - 1)) < (t343.length : Int) then (if a0_0 ≥ 5 then (some (rd t343 (wrap64 ((t343.length : Int) - 1)), rd t343 (wrap64 ((t343.length : Int) - 2)))) else (some (rd t343 (wrap64 ((t343.length : Int) - 2)), rd t343 (wrap64 ((t343.length : Int) - 1))))) else (none)) else (none)) else (none)) else (none))) else (some ((-1), (-1))))
theorem ententeref13_Ends.mono : ∀ a0 a1 a2 a3 a4 a5 k, LeO (ententeref13_Ends.f k a0 a1 a2 a3 a4 a5) (ententeref13_Ends.f (k + 1) a0 a1 a2 a3 a4 a5) := by
 intro a0 a1 a2 a3 a4 a5 k
 unfold ententeref13_Ends.f
 repeat' first
   | (with_reducible exact ententeref03_Path.mono _ _ _ _)
   | (with_reducible exact ententeref13_Check.mono _ _ _ _ _ _ _)
   | (with_reducible exact LeO.refl _)
   | (with_reducible exact LeO.none _)
   | (with_reducible refine LeO.ite ?_ ?_)
   | (with_reducible refine LeO.bind ?_ (fun _ => ?_))
   | exact ententeref03_Path.mono _ _ _ _
   | exact ententeref13_Check.mono _ _ _ _ _ _ _
   | exact LeO.none _
   | refine LeO.ite ?_ ?_
   | refine LeO.bind ?_ (fun _ => ?_)
set_option maxHeartbeats 8000000 in
set_option maxRecDepth 100000 in
theorem ententeref13_Ends.calls (k : Nat) (a0_0 : Int) (a0_1 : Int) (a0_2 : Int) (A0_3 : Option Addr) (c0_3 : Nat) (l0_3 : List (S50)) (a0_4 : ByteArray) (a0_5 : Int) (r1 : Int) (r2 : Int) (w : World) (hr0_3 : Kd.C k50 w A0_3 l0_3.length l0_3) (hc0_3 : l0_3.length ≤ c0_3) (h : ententeref13_Ends.f k a0_0 a0_1 a0_2 l0_3 a0_4 a0_5 = some (r1, r2)) :
  Calls Tryd.prog 9 #[.agg #[.int .i64 a0_0, .int .i64 a0_1, .int .i64 a0_2, .slice A0_3 l0_3.length c0_3, .string a0_4, .int .i64 a0_5]] w fun e w' => e = .returned (.tuple #[.int .i64 r1, .int .i64 r2]) ∧ Below w.heap.size w w' := by
 have hu26 := Tryd.underlying26
 have hu24 := Tryd.underlying24
 have HR0_3 := Aside0.mk hr0_3
 have HC0_3 := Aside0.mk hc0_3
 clear hr0_3 hc0_3
 have HB := Aside0.mk (Below.refl w.heap.size w)
 have H : ((ententeref13_Check.f k a0_0 a0_1 a0_2 l0_3 a0_4 a0_5).bind fun t342 => (if t342 = 0 then ((ententeref03_Path.f k a0_1 a0_2 l0_3).bind fun t343 => (if 0 ≤ (wrap64 ((t343.length : Int) - 2)) then (if (wrap64 ((t343.length : Int) - 2)) < (t343.length : Int) then (if 0 ≤ (wrap64 ((t343.length : Int) - 1)) then (if (wrap64 ((t343.length : Int) - 1)) < (t343.length : Int) then (if a0_0 ≥ 5 then (some (rd t343 (wrap64 ((t343.length : Int) - 1)), rd t343 (wrap64 ((t343.length : Int) - 2)))) else (some (rd t343 (wrap64 ((t343.length : Int) - 2)), rd t343 (wrap64 ((t343.length : Int) - 1))))) else (none)) else (none)) else (none)) else (none))) else (some ((-1), (-1))))) = some (r1, r2) := h
 clear h
 obtain ⟨t342, A20, H⟩ := Option.bind_eq_some_iff.mp H
 try dsimp only at H
 have A2 := Aside0.mk A20
 clear A20
 by_cases c3 : t342 = 0
 ·rw [if_pos c3] at H
  have c3b0 : (t342 == 0) = true := beq_iff_eq.mpr c3
  have c3b1 : (t342 != 0) = false := bne_eq_false_iff_eq.mpr c3
  clear c3
  obtain ⟨t343, A40, H⟩ := Option.bind_eq_some_iff.mp H
  try dsimp only at H
  have A4 := Aside0.mk A40
  clear A40
  obtain ⟨ji5, hji5⟩ : ∃ j_ : Int, (wrap64 ((t343.length : Int) - 2)) = j_ := ⟨_, rfl⟩
  replace H : (if 0 ≤ (ji5) then (if (ji5) < (t343.length : Int) then (if 0 ≤ (wrap64 ((t343.length : Int) - 1)) then (if (wrap64 ((t343.length : Int) - 1)) < (t343.length : Int) then (if a0_0 ≥ 5 then (some (rd t343 (wrap64 ((t343.length : Int) - 1)), rd t343 (ji5))) else (some (rd t343 (ji5), rd t343 (wrap64 ((t343.length : Int) - 1))))) else (none)) else (none)) else (none)) else (none)) = some (r1, r2) := by (rw [hji5] at H; exact H)
  (try rw [hji5] at A2)
  (try rw [hji5] at A4)
  have hji5w : (IntKind.i64.wrap ((t343.length : Int) - 2)) = ji5 := (i64_w _).trans hji5
  by_cases c6 : 0 ≤ (ji5)
  ·rw [if_pos c6] at H
   have c6b0 : decide (0 ≤ (ji5)) = true := decide_eq_true c6
   clear c6
   by_cases c7 : (ji5) < (t343.length : Int)
   ·rw [if_pos c7] at H
    have c7b0 : decide ((ji5) < (t343.length : Int)) = true := decide_eq_true c7
    clear c7
    obtain ⟨ji8, hji8⟩ : ∃ j_ : Int, (wrap64 ((t343.length : Int) - 1)) = j_ := ⟨_, rfl⟩
    replace H : (if 0 ≤ (ji8) then (if (ji8) < (t343.length : Int) then (if a0_0 ≥ 5 then (some (rd t343 (ji8), rd t343 (ji5))) else (some (rd t343 (ji5), rd t343 (ji8)))) else (none)) else (none)) = some (r1, r2) := by (rw [hji8] at H; exact H)
    (try rw [hji8] at A2)
    (try rw [hji8] at A4)
    have hji8w : (IntKind.i64.wrap ((t343.length : Int) - 1)) = ji8 := (i64_w _).trans hji8
    by_cases c9 : 0 ≤ (ji8)
    ·rw [if_pos c9] at H
     have c9b0 : decide (0 ≤ (ji8)) = true := decide_eq_true c9
     clear c9
     by_cases c10 : (ji8) < (t343.length : Int)
     ·rw [if_pos c10] at H
      have c10b0 : decide ((ji8) < (t343.length : Int)) = true := decide_eq_true c10
      clear c10
      by_cases c11 : a0_0 ≥ 5
      ·rw [if_pos c11] at H
       have c11b0 : decide (5 ≤ a0_0) = true := decide_eq_true c11
       clear c11
       simp only [Option.some.injEq, Prod.mk.injEq] at H
       obtain ⟨rfl, rfl⟩ := H
       go_enter Tryd.func9, Tryd.ntmps9
       go_wp2_with (first | ((with_reducible refine gate_dst (N := 1) rfl ?_); refine box_event ?hg (N := 1) ?hd (cs := #[.int .i64 a0_0, .int .i64 a0_1, .int .i64 a0_2, .slice A0_3 l0_3.length c0_3, .string a0_4, .int .i64 a0_5]) (t := 26) ?hr ?_; (case hd => rfl); (case hg => rfl); (case hr => (go_simp; done)); intro gb341 hg w12 hbox hb; have BK341 := Aside0.mk (hbox); have GW341 := Aside0.mk ((by rw [hg]; exact (below_size (HB.out)) : w.heap.size ≤ gb341)); have GE341 := Aside0.mk ((by rw [hg]; exact (below_size (HB.out)) : w.heap.size ≤ gb341)); replace HB := Aside0.mk (below_step (HB.out) hb); clear hb hbox hg; obtain ⟨hcz13_0, hcz13_1, hcz13_2, hcz13_3, hcz13_4, hcz13_5⟩ := bc6 BK341.out; obtain ⟨hfz13_0, hfz13_1, hfz13_2, hfz13_3, hfz13_4, hfz13_5⟩ := bf6 BK341.out) | (go_at_call 13; (with_reducible refine (ententeref13_Check.calls k a0_0 a0_1 a0_2 _ _ l0_3 a0_4 a0_5 t342 _ ?side1 ?side2 A2.out).mono ?_); (case side1 => exact (Kd.C_below HR0_3.out HB.out)); (case side2 => exact HC0_3.out); rintro e w14 ⟨rfl, hb⟩; replace BK341 := Aside0.mk (blk_below BK341.out hb); replace HB := Aside0.mk (below_step (HB.out) hb); clear hb; obtain ⟨hcz15_0, hcz15_1, hcz15_2, hcz15_3, hcz15_4, hcz15_5⟩ := bc6 BK341.out; obtain ⟨hfz15_0, hfz15_1, hfz15_2, hfz15_3, hfz15_4, hfz15_5⟩ := bf6 BK341.out) | (go_at_call 21; (with_reducible refine (ententeref03_Path.calls k a0_1 a0_2 _ _ l0_3 t343 _ ?side1 ?side2 A4.out).mono ?_); (case side1 => exact (Kd.C_below HR0_3.out HB.out)); (case side2 => exact HC0_3.out); rintro e w16 ⟨v344, rfl, ho0, hb⟩; have HO345 := Aside0.mk (Kd.R_lower ho0 (below_size (HB.out))); replace BK341 := Aside0.mk (blk_below BK341.out hb); replace HB := Aside0.mk (below_step (HB.out) hb); clear hb ho0; obtain ⟨Ao17, co17, eo17⟩ := Kd.R_slice HO345.out; subst eo17; have p346 : 0 ≤ ((ji5) : Int) := of_decide_eq_true (by (with_reducible assumption)); have q346 : (ji5) < (t343.length : Int) := of_decide_eq_true (by (with_reducible assumption)); obtain ⟨ad346, e346, hx346_0⟩ := Kd.at_int (Kd.R_reads' HO345.out).2.2 (ji5) p346 q346; cases e346; replace p346 := eq_true p346; replace q346 := eq_true q346; have p347 : 0 ≤ ((ji8) : Int) := of_decide_eq_true (by (with_reducible assumption)); have q347 : (ji8) < (t343.length : Int) := of_decide_eq_true (by (with_reducible assumption)); obtain ⟨ad347, e347, hx347_0⟩ := Kd.at_int (Kd.R_reads' HO345.out).2.2 (ji8) p347 q347; obtain rfl : ad346 = ad347 := (by injection e347); replace p347 := eq_true p347; replace q347 := eq_true q347; obtain ⟨hcz18_0, hcz18_1, hcz18_2, hcz18_3, hcz18_4, hcz18_5⟩ := bc6 BK341.out; obtain ⟨hfz18_0, hfz18_1, hfz18_2, hfz18_3, hfz18_4, hfz18_5⟩ := bf6 BK341.out))
       repeat (go_quiet (fail); try go_wp2_with (fail))
       go_ret2
       exact ⟨by first | rfl | (simp [errW_none, errW_some] <;> rfl) | (simp only [← hji5, ← hji8]; first | rfl | (simp [errW_none, errW_some] <;> rfl)) | (simp [*, errW_none, errW_some] <;> rfl), pw_below_drewN HB.out _⟩
      ·rw [if_neg c11] at H
       have c11b0 : decide (5 ≤ a0_0) = false := decide_eq_false c11
       clear c11
       simp only [Option.some.injEq, Prod.mk.injEq] at H
       obtain ⟨rfl, rfl⟩ := H
       go_enter Tryd.func9, Tryd.ntmps9
       go_wp2_with (first | ((with_reducible refine gate_dst (N := 1) rfl ?_); refine box_event ?hg (N := 1) ?hd (cs := #[.int .i64 a0_0, .int .i64 a0_1, .int .i64 a0_2, .slice A0_3 l0_3.length c0_3, .string a0_4, .int .i64 a0_5]) (t := 26) ?hr ?_; (case hd => rfl); (case hg => rfl); (case hr => (go_simp; done)); intro gb341 hg w19 hbox hb; have BK341 := Aside0.mk (hbox); have GW341 := Aside0.mk ((by rw [hg]; exact (below_size (HB.out)) : w.heap.size ≤ gb341)); have GE341 := Aside0.mk ((by rw [hg]; exact (below_size (HB.out)) : w.heap.size ≤ gb341)); replace HB := Aside0.mk (below_step (HB.out) hb); clear hb hbox hg; obtain ⟨hcz20_0, hcz20_1, hcz20_2, hcz20_3, hcz20_4, hcz20_5⟩ := bc6 BK341.out; obtain ⟨hfz20_0, hfz20_1, hfz20_2, hfz20_3, hfz20_4, hfz20_5⟩ := bf6 BK341.out) | (go_at_call 13; (with_reducible refine (ententeref13_Check.calls k a0_0 a0_1 a0_2 _ _ l0_3 a0_4 a0_5 t342 _ ?side1 ?side2 A2.out).mono ?_); (case side1 => exact (Kd.C_below HR0_3.out HB.out)); (case side2 => exact HC0_3.out); rintro e w21 ⟨rfl, hb⟩; replace BK341 := Aside0.mk (blk_below BK341.out hb); replace HB := Aside0.mk (below_step (HB.out) hb); clear hb; obtain ⟨hcz22_0, hcz22_1, hcz22_2, hcz22_3, hcz22_4, hcz22_5⟩ := bc6 BK341.out; obtain ⟨hfz22_0, hfz22_1, hfz22_2, hfz22_3, hfz22_4, hfz22_5⟩ := bf6 BK341.out) | (go_at_call 21; (with_reducible refine (ententeref03_Path.calls k a0_1 a0_2 _ _ l0_3 t343 _ ?side1 ?side2 A4.out).mono ?_); (case side1 => exact (Kd.C_below HR0_3.out HB.out)); (case side2 => exact HC0_3.out); rintro e w23 ⟨v344, rfl, ho0, hb⟩; have HO345 := Aside0.mk (Kd.R_lower ho0 (below_size (HB.out))); replace BK341 := Aside0.mk (blk_below BK341.out hb); replace HB := Aside0.mk (below_step (HB.out) hb); clear hb ho0; obtain ⟨Ao24, co24, eo24⟩ := Kd.R_slice HO345.out; subst eo24; have p346 : 0 ≤ ((ji5) : Int) := of_decide_eq_true (by (with_reducible assumption)); have q346 : (ji5) < (t343.length : Int) := of_decide_eq_true (by (with_reducible assumption)); obtain ⟨ad346, e346, hx346_0⟩ := Kd.at_int (Kd.R_reads' HO345.out).2.2 (ji5) p346 q346; cases e346; replace p346 := eq_true p346; replace q346 := eq_true q346; have p347 : 0 ≤ ((ji8) : Int) := of_decide_eq_true (by (with_reducible assumption)); have q347 : (ji8) < (t343.length : Int) := of_decide_eq_true (by (with_reducible assumption)); obtain ⟨ad347, e347, hx347_0⟩ := Kd.at_int (Kd.R_reads' HO345.out).2.2 (ji8) p347 q347; obtain rfl : ad346 = ad347 := (by injection e347); replace p347 := eq_true p347; replace q347 := eq_true q347; obtain ⟨hcz25_0, hcz25_1, hcz25_2, hcz25_3, hcz25_4, hcz25_5⟩ := bc6 BK341.out; obtain ⟨hfz25_0, hfz25_1, hfz25_2, hfz25_3, hfz25_4, hfz25_5⟩ := bf6 BK341.out))
       repeat (go_quiet (fail); try go_wp2_with (fail))
       go_ret2
       exact ⟨by first | rfl | (simp [errW_none, errW_some] <;> rfl) | (simp only [← hji5, ← hji8]; first | rfl | (simp [errW_none, errW_some] <;> rfl)) | (simp [*, errW_none, errW_some] <;> rfl), pw_below_drewN HB.out _⟩
     ·rw [if_neg c10] at H
      exact absurd H (by simp)
    ·rw [if_neg c9] at H
     exact absurd H (by simp)
   ·rw [if_neg c7] at H
    exact absurd H (by simp)
  ·rw [if_neg c6] at H
   exact absurd H (by simp)
 ·rw [if_neg c3] at H
  have c3b0 : (t342 == 0) = false := beq_eq_false_iff_ne.mpr c3
  have c3b1 : (t342 != 0) = true := bne_iff_ne.mpr c3
  simp only [Option.some.injEq, Prod.mk.injEq] at H
  obtain ⟨rfl, rfl⟩ := H
  go_enter Tryd.func9, Tryd.ntmps9
  go_wp2_with (first | ((with_reducible refine gate_dst (N := 1) rfl ?_); refine box_event ?hg (N := 1) ?hd (cs := #[.int .i64 a0_0, .int .i64 a0_1, .int .i64 a0_2, .slice A0_3 l0_3.length c0_3, .string a0_4, .int .i64 a0_5]) (t := 26) ?hr ?_; (case hd => rfl); (case hg => rfl); (case hr => (go_simp; done)); intro gb341 hg w26 hbox hb; have BK341 := Aside0.mk (hbox); have GW341 := Aside0.mk ((by rw [hg]; exact (below_size (HB.out)) : w.heap.size ≤ gb341)); have GE341 := Aside0.mk ((by rw [hg]; exact (below_size (HB.out)) : w.heap.size ≤ gb341)); replace HB := Aside0.mk (below_step (HB.out) hb); clear hb hbox hg; obtain ⟨hcz27_0, hcz27_1, hcz27_2, hcz27_3, hcz27_4, hcz27_5⟩ := bc6 BK341.out; obtain ⟨hfz27_0, hfz27_1, hfz27_2, hfz27_3, hfz27_4, hfz27_5⟩ := bf6 BK341.out) | (go_at_call 13; (with_reducible refine (ententeref13_Check.calls k a0_0 a0_1 a0_2 _ _ l0_3 a0_4 a0_5 t342 _ ?side1 ?side2 A2.out).mono ?_); (case side1 => exact (Kd.C_below HR0_3.out HB.out)); (case side2 => exact HC0_3.out); rintro e w28 ⟨rfl, hb⟩; replace BK341 := Aside0.mk (blk_below BK341.out hb); replace HB := Aside0.mk (below_step (HB.out) hb); clear hb))
  repeat (go_quiet (fail); try go_wp2_with (fail))
  go_ret2
  exact ⟨by rfl, HB.out⟩

/-! ### ententeref03_Digits: function 26 -/
def ententeref03_Digits.f : Nat → Int → Option (ByteArray)
 | 0, _ => none
 | k + 1, a0 => if a0 < 10 then (if 0 ≤ a0 then (if a0 ≤ (wrap64 (a0 + 1)) then (if (wrap64 (a0 + 1)) ≤ 10 then (some ((⟨#[48, 49, 50, 51, 52, 53, 54, 55, 56, 57]⟩ : ByteArray).extract (a0 : Int).toNat ((wrap64 (a0 + 1)) : Int).toNat)) else (none)) else (none)) else (none)) else ((ententeref03_Digits.f k (wrap64 (Int.tdiv a0 10))).bind fun t348 => ((ententeref03_Digits.f k (Int.tmod a0 10)).bind fun t349 => (if t348.size + t349.size ≤ 9223372036854775807 then (some (t348 ++ t349)) else (none))))
theorem ententeref03_Digits.mono_l : ∀ k, (∀ y0, LeO (ententeref03_Digits.f k y0) (ententeref03_Digits.f (k + 1) y0))
 | 0 => fun _ r h => by simp [ententeref03_Digits.f] at h
 | k + 1 => by
  have ih0 := ententeref03_Digits.mono_l k
  ·intro y0
   unfold ententeref03_Digits.f
   repeat' first
   | (with_reducible exact ih0 _)
   | (with_reducible exact LeO.refl _)
   | (with_reducible exact LeO.none _)
   | (with_reducible refine LeO.ite ?_ ?_)
   | (with_reducible refine LeO.bind ?_ (fun _ => ?_))
   | exact ih0 _
   | exact LeO.none _
   | refine LeO.ite ?_ ?_
   | refine LeO.bind ?_ (fun _ => ?_)
theorem ententeref03_Digits.mono : ∀ a0 k, LeO (ententeref03_Digits.f k a0) (ententeref03_Digits.f (k + 1) a0) := by
 intro a0 k
 have ih0 := ententeref03_Digits.mono_l k
 exact ih0 a0
set_option maxHeartbeats 8000000 in
set_option maxRecDepth 100000 in
theorem ententeref03_Digits.calls (k : Nat) : ∀ (a0 : Int) (r : ByteArray) (w : World) (h : ententeref03_Digits.f k a0 = some r),
  Calls Tryd.prog 26 #[.int .i64 a0] w fun e w' => e = .returned (.string r) ∧ Drawn0 w w' := by
 induction k using Nat.strongRecOn with
 | _ k ih =>
 intro a0 r w h
 cases k with
 | zero => exact absurd h (by simp [ententeref03_Digits.f])
 | succ k =>
 simp only [ententeref03_Digits.f] at h
 have H : (if a0 < 10 then (if 0 ≤ a0 then (if a0 ≤ (wrap64 (a0 + 1)) then (if (wrap64 (a0 + 1)) ≤ 10 then (some ((⟨#[48, 49, 50, 51, 52, 53, 54, 55, 56, 57]⟩ : ByteArray).extract (a0 : Int).toNat ((wrap64 (a0 + 1)) : Int).toNat)) else (none)) else (none)) else (none)) else ((ententeref03_Digits.f k (wrap64 (Int.tdiv a0 10))).bind fun t348 => ((ententeref03_Digits.f k (Int.tmod a0 10)).bind fun t349 => (if t348.size + t349.size ≤ 9223372036854775807 then (some (t348 ++ t349)) else (none))))) = some r := h
 clear h
 by_cases c2 : a0 < 10
 ·rw [if_pos c2] at H
  have c2b0 : decide (a0 < 10) = true := decide_eq_true c2
  clear c2
  by_cases c3 : 0 ≤ a0
  ·rw [if_pos c3] at H
   have c3b0 := eq_true c3
   have c3b1 : decide (0 ≤ a0) = true := decide_eq_true c3
   clear c3
   by_cases c4 : a0 ≤ (wrap64 (a0 + 1))
   ·rw [if_pos c4] at H
    have c4b0 := eq_true c4
    have c4b1 : decide (a0 ≤ (wrap64 (a0 + 1))) = true := decide_eq_true c4
    by_cases c5 : (wrap64 (a0 + 1)) ≤ 10
    ·rw [if_pos c5] at H
     have c5b0 := eq_true c5
     have c5b1 : decide ((wrap64 (a0 + 1)) ≤ 10) = true := decide_eq_true c5
     obtain rfl := Option.some.inj H
     go_enter Tryd.func26, Tryd.ntmps26
     go_wp2
     go_ret
     exact ⟨by rfl, Drawn0.refl _⟩
    ·rw [if_neg c5] at H
     exact absurd H (by simp)
   ·rw [if_neg c4] at H
    exact absurd H (by simp)
  ·rw [if_neg c3] at H
   exact absurd H (by simp)
 ·rw [if_neg c2] at H
  have c2b0 : decide (a0 < 10) = false := decide_eq_false c2
  clear c2
  obtain ⟨t348, A60, H⟩ := Option.bind_eq_some_iff.mp H
  try dsimp only at H
  have A6 := Aside0.mk A60
  clear A60
  obtain ⟨t349, A70, H⟩ := Option.bind_eq_some_iff.mp H
  try dsimp only at H
  have A7 := Aside0.mk A70
  clear A70
  by_cases c8 : t348.size + t349.size ≤ 9223372036854775807
  ·rw [if_pos c8] at H
   have c8b0 := eq_true c8
   have c8b1 : decide (t348.size + t349.size ≤ 9223372036854775807) = true := decide_eq_true c8
   try have c8b2 : (9223372036854775807 < t348.size + t349.size) = False := eq_false (Nat.not_lt.2 c8)
   obtain rfl := Option.some.inj H
   go_enter Tryd.func26, Tryd.ntmps26
   go_wp2_with (first | ((with_reducible refine gate_callee (f := 26) rfl ?_); refine goesL_ (some 11) rfl rfl Tryd.func26 (by kernel_rfl) rfl #[.int .i64 (wrap64 (Int.tdiv a0 10))] rfl (by (try simp only [List.map_toArray, List.map_cons, List.map_nil]); rfl) ?_; (with_reducible refine (ih k (by omega) (wrap64 (Int.tdiv a0 10)) t348 _ A6.out).mono ?_); rintro e w' ⟨rfl, ⟨nd, rfl⟩⟩; refine ⟨_, rfl, ?_⟩) | ((with_reducible refine gate_callee (f := 26) rfl ?_); refine goesL_ (some 14) rfl rfl Tryd.func26 (by kernel_rfl) rfl #[.int .i64 (Int.tmod a0 10)] rfl (by (try simp only [List.map_toArray, List.map_cons, List.map_nil]); rfl) ?_; (with_reducible refine (ih k (by omega) (Int.tmod a0 10) t349 _ A7.out).mono ?_); rintro e w' ⟨rfl, ⟨nd, rfl⟩⟩; refine ⟨_, rfl, ?_⟩))
   go_ret
   exact ⟨by rfl, by repeat (first | exact Drawn0.refl _ | apply Drawn0.step)⟩
  ·rw [if_neg c8] at H
   exact absurd H (by simp)

/-! ### ententeref03_Show: function 25 -/
def ententeref03_Show.l0 : Nat → ByteArray → Int → Int → Int → List (S50) → Option (ByteArray × Int)
 | 0, _, _, _, _, _ => none
 | k + 1, x4, x5, x351000, x351001, x351002 => if x5 < (x351002.length : Int) then (if x4.size + 1 ≤ 9223372036854775807 then (if 0 ≤ x5 then ((ententeref03_Digits.f k ((rd_T50 x351002 x5).f0)).bind fun t355 => (if x4.size + 1 + t355.size ≤ 9223372036854775807 then (if x4.size + 1 + t355.size + 1 ≤ 9223372036854775807 then ((ententeref03_Digits.f k ((rd_T50 x351002 x5).f1)).bind fun t357 => (if x4.size + 1 + t355.size + 1 + t357.size ≤ 9223372036854775807 then (ententeref03_Show.l0 k ((((x4 ++ (⟨#[47]⟩ : ByteArray)) ++ t355) ++ (⟨#[64]⟩ : ByteArray)) ++ t357) (wrap64 (x5 + 1)) x351000 x351001 x351002) else (none))) else (none)) else (none))) else (none)) else (none)) else (some (x4, 0))
def ententeref03_Show.f (k : Nat) (a0_0 : Int) (a0_1 : Int) (l0_2 : List (S50)) : Option (ByteArray × Int) := (ententeref03_Check.f k a0_0 a0_1 l0_2).bind fun t351 => (if t351 = 0 then ((ententeref03_Digits.f k a0_0).bind fun t352 => (if t352.size + 1 ≤ 9223372036854775807 then ((ententeref03_Digits.f k a0_1).bind fun t353 => (if t352.size + 1 + t353.size ≤ 9223372036854775807 then (ententeref03_Show.l0 k ((t352 ++ (⟨#[46]⟩ : ByteArray)) ++ t353) 0 a0_0 a0_1 l0_2) else (none))) else (none))) else (some ((⟨#[]⟩ : ByteArray), 30)))
theorem ententeref03_Show.mono_l : ∀ k, (∀ y0 y1 y2 y3 y4, LeO (ententeref03_Show.l0 k y0 y1 y2 y3 y4) (ententeref03_Show.l0 (k + 1) y0 y1 y2 y3 y4))
 | 0 => fun _ _ _ _ _ r h => by simp [ententeref03_Show.l0] at h
 | k + 1 => by
  have ih0 := ententeref03_Show.mono_l k
  ·intro y0 y1 y2 y3 y4
   unfold ententeref03_Show.l0
   repeat' first
   | (with_reducible exact ih0 _ _ _ _ _)
   | (with_reducible exact ententeref03_Check.mono _ _ _ _)
   | (with_reducible exact ententeref03_Digits.mono _ _)
   | (with_reducible exact LeO.refl _)
   | (with_reducible exact LeO.none _)
   | (with_reducible refine LeO.ite ?_ ?_)
   | (with_reducible refine LeO.bind ?_ (fun _ => ?_))
   | exact ih0 _ _ _ _ _
   | exact ententeref03_Check.mono _ _ _ _
   | exact ententeref03_Digits.mono _ _
   | exact LeO.none _
   | refine LeO.ite ?_ ?_
   | refine LeO.bind ?_ (fun _ => ?_)
theorem ententeref03_Show.mono : ∀ a0 a1 a2 k, LeO (ententeref03_Show.f k a0 a1 a2) (ententeref03_Show.f (k + 1) a0 a1 a2) := by
 intro a0 a1 a2 k
 have ih0 := ententeref03_Show.mono_l k
 unfold ententeref03_Show.f
 repeat' first
   | (with_reducible exact ih0 _ _ _ _ _)
   | (with_reducible exact ententeref03_Check.mono _ _ _ _)
   | (with_reducible exact ententeref03_Digits.mono _ _)
   | (with_reducible exact LeO.refl _)
   | (with_reducible exact LeO.none _)
   | (with_reducible refine LeO.ite ?_ ?_)
   | (with_reducible refine LeO.bind ?_ (fun _ => ?_))
   | exact ih0 _ _ _ _ _
   | exact ententeref03_Check.mono _ _ _ _
   | exact ententeref03_Digits.mono _ _
   | exact LeO.none _
   | refine LeO.ite ?_ ?_
   | refine LeO.bind ?_ (fun _ => ?_)
set_option maxHeartbeats 8000000 in
set_option maxRecDepth 100000 in
theorem ententeref03_Show.calls (k : Nat) (a0_0 : Int) (a0_1 : Int) (A0_2 : Option Addr) (c0_2 : Nat) (l0_2 : List (S50)) (r1 : ByteArray) (r2 : Int) (w : World) (hr0_2 : Kd.C k50 w A0_2 l0_2.length l0_2) (hc0_2 : l0_2.length ≤ c0_2) (h : ententeref03_Show.f k a0_0 a0_1 l0_2 = some (r1, r2)) :
  Calls Tryd.prog 25 #[.agg #[.int .i64 a0_0, .int .i64 a0_1, .slice A0_2 l0_2.length c0_2]] w fun e w' => e = .returned (.tuple #[.string r1, .int .i64 r2]) ∧ Below w.heap.size w w' := by
 have hu24 := Tryd.underlying24
 have HR0_2 := Aside0.mk hr0_2
 have HC0_2 := Aside0.mk hc0_2
 clear hr0_2 hc0_2
 have HB := Aside0.mk (Below.refl w.heap.size w)
 have H : ((ententeref03_Check.f k a0_0 a0_1 l0_2).bind fun t351 => (if t351 = 0 then ((ententeref03_Digits.f k a0_0).bind fun t352 => (if t352.size + 1 ≤ 9223372036854775807 then ((ententeref03_Digits.f k a0_1).bind fun t353 => (if t352.size + 1 + t353.size ≤ 9223372036854775807 then (ententeref03_Show.l0 k ((t352 ++ (⟨#[46]⟩ : ByteArray)) ++ t353) 0 a0_0 a0_1 l0_2) else (none))) else (none))) else (some ((⟨#[]⟩ : ByteArray), 30)))) = some (r1, r2) := h
 clear h
 obtain ⟨t351, A20, H⟩ := Option.bind_eq_some_iff.mp H
 try dsimp only at H
 have A2 := Aside0.mk A20
 clear A20
 by_cases c3 : t351 = 0
 ·rw [if_pos c3] at H
  have c3b0 : (t351 == 0) = true := beq_iff_eq.mpr c3
  have c3b1 : (t351 != 0) = false := bne_eq_false_iff_eq.mpr c3
  clear c3
  obtain ⟨t352, A40, H⟩ := Option.bind_eq_some_iff.mp H
  try dsimp only at H
  have A4 := Aside0.mk A40
  clear A40
  by_cases c5 : t352.size + 1 ≤ 9223372036854775807
  ·rw [if_pos c5] at H
   have c5b0 := eq_true c5
   have c5b1 : decide (t352.size + 1 ≤ 9223372036854775807) = true := decide_eq_true c5
   try have c5b2 : (9223372036854775807 < t352.size + 1) = False := eq_false (Nat.not_lt.2 c5)
   obtain ⟨t353, A60, H⟩ := Option.bind_eq_some_iff.mp H
   try dsimp only at H
   have A6 := Aside0.mk A60
   clear A60
   by_cases c7 : t352.size + 1 + t353.size ≤ 9223372036854775807
   ·rw [if_pos c7] at H
    have c7b0 := eq_true c7
    have c7b1 : decide (t352.size + 1 + t353.size ≤ 9223372036854775807) = true := decide_eq_true c7
    try have c7b2 : (9223372036854775807 < t352.size + 1 + t353.size) = False := eq_false (Nat.not_lt.2 c7)
    have H' := Aside0.mk H
    clear H
    go_enter Tryd.func25, Tryd.ntmps25
    go_wp2_with (first | ((with_reducible refine gate_dst (N := 1) rfl ?_); refine box_event ?hg (N := 1) ?hd (cs := #[.int .i64 a0_0, .int .i64 a0_1, .slice A0_2 l0_2.length c0_2]) (t := 24) ?hr ?_; (case hd => rfl); (case hg => rfl); (case hr => (go_simp; done)); intro gb350 hg w8 hbox hb; have BK350 := Aside0.mk (hbox); have GW350 := Aside0.mk ((by rw [hg]; exact (below_size (HB.out)) : w.heap.size ≤ gb350)); have GE350 := Aside0.mk ((by rw [hg]; exact (below_size (HB.out)) : w.heap.size ≤ gb350)); replace HB := Aside0.mk (below_step (HB.out) hb); clear hb hbox hg; obtain ⟨hcz9_0, hcz9_1, hcz9_2⟩ := bc3 BK350.out; obtain ⟨hfz9_0, hfz9_1, hfz9_2⟩ := bf3 BK350.out) | (go_at_call 28; (with_reducible refine (ententeref03_Check.calls k a0_0 a0_1 _ _ l0_2 t351 _ ?side1 ?side2 A2.out).mono ?_); (case side1 => exact (Kd.C_below HR0_2.out HB.out)); (case side2 => exact HC0_2.out); rintro e w10 ⟨rfl, hb⟩; replace BK350 := Aside0.mk (blk_below BK350.out hb); replace HB := Aside0.mk (below_step (HB.out) hb); clear hb; obtain ⟨hcz11_0, hcz11_1, hcz11_2⟩ := bc3 BK350.out; obtain ⟨hfz11_0, hfz11_1, hfz11_2⟩ := bf3 BK350.out))
    repeat (go_quiet (first | (go_at_call 26; (with_reducible refine (ententeref03_Digits.calls k a0_0 t352 _ A4.out).mono ?_); rintro e w' ⟨rfl, ⟨nd, rfl⟩⟩; (try exact ⟨rfl, _, World.drewN_drewN _ _ _⟩)) | (go_at_call 26; (with_reducible refine (ententeref03_Digits.calls k a0_1 t353 _ A6.out).mono ?_); rintro e w' ⟨rfl, ⟨nd, rfl⟩⟩; (try exact ⟨rfl, _, World.drewN_drewN _ _ _⟩))); try go_wp2_with (fail))
    go_loopg [4, 5] k (fun kq v4 v5 w' => ∃ (x4_1 : ByteArray) (x5_1 : Int), v4 = .string x4_1 ∧ v5 = .int .i64 x5_1 ∧ Aside0 (ententeref03_Show.l0 kq x4_1 x5_1 a0_0 a0_1 l0_2 = some (r1, r2)) ∧ Aside0 (kq ≤ k) ∧ Aside0 (w'.heap[gb350]? = some (.cells #[.int .i64 a0_0, .int .i64 a0_1, (.slice A0_2 l0_2.length c0_2)] 24 (0, 0))) ∧ Aside0 (Below w.heap.size w w'))
    case atStart => exact ⟨((t352 ++ (⟨#[46]⟩ : ByteArray)) ++ t353), (0), (by rfl), (by rfl), H', ⟨Nat.le_refl _⟩, ⟨by refine blk_drewN ?_ _; exact BK350.out⟩, ⟨pw_below_drewN HB.out _⟩⟩
    case round =>
     clear H'
     clear c3b0 c3b1 c5 c5b0 c5b1 c5b2 c7 c7b0 c7b1 c7b2 hcz11_0 hcz11_1 hcz11_2 hcz9_0 hcz9_1 hcz9_2 hfz11_0 hfz11_1 hfz11_2 hfz9_0 hfz9_1 hfz9_2
     obtain ⟨x4_1, x5_1, rfl, rfl, HA, HK1, BK350, HB⟩ := hrel
     cases gk with
     | zero => exact absurd HA.out (by simp [ententeref03_Show.l0])
     | succ k1 =>
      have H := HA.out
      clear HA
      simp only [ententeref03_Show.l0] at H
      by_cases c12 : x5_1 < (l0_2.length : Int)
      ·rw [if_pos c12] at H
       have c12b0 : decide (x5_1 < (l0_2.length : Int)) = true := decide_eq_true c12
       clear c12
       by_cases c13 : x4_1.size + 1 ≤ 9223372036854775807
       ·rw [if_pos c13] at H
        have c13b0 := eq_true c13
        have c13b1 : decide (x4_1.size + 1 ≤ 9223372036854775807) = true := decide_eq_true c13
        try have c13b2 : (9223372036854775807 < x4_1.size + 1) = False := eq_false (Nat.not_lt.2 c13)
        by_cases c14 : 0 ≤ x5_1
        ·rw [if_pos c14] at H
         have c14b0 : decide (0 ≤ x5_1) = true := decide_eq_true c14
         clear c14
         obtain ⟨t355, A150, H⟩ := Option.bind_eq_some_iff.mp H
         try dsimp only at H
         have A15 := Aside0.mk A150
         clear A150
         by_cases c16 : x4_1.size + 1 + t355.size ≤ 9223372036854775807
         ·rw [if_pos c16] at H
          have c16b0 := eq_true c16
          have c16b1 : decide (x4_1.size + 1 + t355.size ≤ 9223372036854775807) = true := decide_eq_true c16
          try have c16b2 : (9223372036854775807 < x4_1.size + 1 + t355.size) = False := eq_false (Nat.not_lt.2 c16)
          by_cases c17 : x4_1.size + 1 + t355.size + 1 ≤ 9223372036854775807
          ·rw [if_pos c17] at H
           have c17b0 := eq_true c17
           have c17b1 : decide (x4_1.size + 1 + t355.size + 1 ≤ 9223372036854775807) = true := decide_eq_true c17
           try have c17b2 : (9223372036854775807 < x4_1.size + 1 + t355.size + 1) = False := eq_false (Nat.not_lt.2 c17)
           obtain ⟨t357, A180, H⟩ := Option.bind_eq_some_iff.mp H
           try dsimp only at H
           have A18 := Aside0.mk A180
           clear A180
           by_cases c19 : x4_1.size + 1 + t355.size + 1 + t357.size ≤ 9223372036854775807
           ·rw [if_pos c19] at H
            have c19b0 := eq_true c19
            have c19b1 : decide (x4_1.size + 1 + t355.size + 1 + t357.size ≤ 9223372036854775807) = true := decide_eq_true c19
            try have c19b2 : (9223372036854775807 < x4_1.size + 1 + t355.size + 1 + t357.size) = False := eq_false (Nat.not_lt.2 c19)
            have H' := Aside0.mk H
            clear H
            obtain ⟨hcz20_0, hcz20_1, hcz20_2⟩ := bc3 BK350.out
            obtain ⟨hfz20_0, hfz20_1, hfz20_2⟩ := bf3 BK350.out
            have p354 : 0 ≤ (x5_1 : Int) := of_decide_eq_true (by (with_reducible assumption))
            have q354 : x5_1 < (l0_2.length : Int) := of_decide_eq_true (by (with_reducible assumption))
            obtain ⟨ad354, e354, hx354_0, hx354_1⟩ := at_T50 HR0_2.out x5_1 p354 q354
            cases e354
            try replace hx354_0 := (HB.out.cell (World.block_lt_of_cell? w _ hx354_0)).trans hx354_0
            try replace hx354_1 := (HB.out.cell (World.block_lt_of_cell? w _ hx354_1)).trans hx354_1
            replace p354 := eq_true p354
            replace q354 := eq_true q354
            go_wp2_with (fail)
            repeat (go_quiet (first | (go_at_call 26; (with_reducible refine (ententeref03_Digits.calls k1 ((rd_T50 l0_2 x5_1).f0) t355 _ A15.out).mono ?_); rintro e w' ⟨rfl, ⟨nd, rfl⟩⟩; (try exact ⟨rfl, _, World.drewN_drewN _ _ _⟩); have p356 : 0 ≤ (x5_1 : Int) := of_decide_eq_true (by (with_reducible assumption)); have q356 : x5_1 < (l0_2.length : Int) := of_decide_eq_true (by (with_reducible assumption)); obtain ⟨ad356, e356, hx356_0, hx356_1⟩ := at_T50 HR0_2.out x5_1 p356 q356; obtain rfl : ad354 = ad356 := (by injection e356); replace hx356_0 := (HB.out.cell (World.block_lt_of_cell? w _ hx356_0)).trans hx356_0; replace hx356_1 := (HB.out.cell (World.block_lt_of_cell? w _ hx356_1)).trans hx356_1; replace p356 := eq_true p356; replace q356 := eq_true q356) | (go_at_call 26; (with_reducible refine (ententeref03_Digits.calls k1 ((rd_T50 l0_2 x5_1).f1) t357 _ A18.out).mono ?_); rintro e w' ⟨rfl, ⟨nd, rfl⟩⟩; (try exact ⟨rfl, _, World.drewN_drewN _ _ _⟩))); try go_wp2_with (fail))
            go_roundg k1
            case measure => have := HK1.out; omega
            case rel => exact ⟨((((x4_1 ++ (⟨#[47]⟩ : ByteArray)) ++ t355) ++ (⟨#[64]⟩ : ByteArray)) ++ t357), (wrap64 (x5_1 + 1)), (by rfl), (by rfl), H', ⟨by have := HK1.out; omega⟩, ⟨by refine blk_drewN ?_ _; exact BK350.out⟩, ⟨pw_below_drewN HB.out _⟩⟩
           ·rw [if_neg c19] at H
            exact absurd H (by simp)
          ·rw [if_neg c17] at H
           exact absurd H (by simp)
         ·rw [if_neg c16] at H
          exact absurd H (by simp)
        ·rw [if_neg c14] at H
         exact absurd H (by simp)
       ·rw [if_neg c13] at H
        exact absurd H (by simp)
      ·rw [if_neg c12] at H
       have c12b0 : decide (x5_1 < (l0_2.length : Int)) = false := decide_eq_false c12
       clear c12
       simp only [Option.some.injEq, Prod.mk.injEq] at H
       obtain ⟨rfl, rfl⟩ := H
       obtain ⟨hcz21_0, hcz21_1, hcz21_2⟩ := bc3 BK350.out
       obtain ⟨hfz21_0, hfz21_1, hfz21_2⟩ := bf3 BK350.out
       go_wp2
       repeat (go_quiet (fail); try go_wp2)
       go_ret2
       exact ⟨by rfl, HB.out⟩
   ·rw [if_neg c7] at H
    exact absurd H (by simp)
  ·rw [if_neg c5] at H
   exact absurd H (by simp)
 ·rw [if_neg c3] at H
  have c3b0 : (t351 == 0) = false := beq_eq_false_iff_ne.mpr c3
  have c3b1 : (t351 != 0) = true := bne_iff_ne.mpr c3
  simp only [Option.some.injEq, Prod.mk.injEq] at H
  obtain ⟨rfl, rfl⟩ := H
  go_enter Tryd.func25, Tryd.ntmps25
  go_wp2_with (first | ((with_reducible refine gate_dst (N := 1) rfl ?_); refine box_event ?hg (N := 1) ?hd (cs := #[.int .i64 a0_0, .int .i64 a0_1, .slice A0_2 l0_2.length c0_2]) (t := 24) ?hr ?_; (case hd => rfl); (case hg => rfl); (case hr => (go_simp; done)); intro gb350 hg w22 hbox hb; have BK350 := Aside0.mk (hbox); have GW350 := Aside0.mk ((by rw [hg]; exact (below_size (HB.out)) : w.heap.size ≤ gb350)); have GE350 := Aside0.mk ((by rw [hg]; exact (below_size (HB.out)) : w.heap.size ≤ gb350)); replace HB := Aside0.mk (below_step (HB.out) hb); clear hb hbox hg; obtain ⟨hcz23_0, hcz23_1, hcz23_2⟩ := bc3 BK350.out; obtain ⟨hfz23_0, hfz23_1, hfz23_2⟩ := bf3 BK350.out) | (go_at_call 28; (with_reducible refine (ententeref03_Check.calls k a0_0 a0_1 _ _ l0_2 t351 _ ?side1 ?side2 A2.out).mono ?_); (case side1 => exact (Kd.C_below HR0_2.out HB.out)); (case side2 => exact HC0_2.out); rintro e w24 ⟨rfl, hb⟩; replace BK350 := Aside0.mk (blk_below BK350.out hb); replace HB := Aside0.mk (below_step (HB.out) hb); clear hb))
  repeat (go_quiet (fail); try go_wp2_with (fail))
  go_ret2
  exact ⟨by rfl, HB.out⟩

/-! ### ententeref13_Show: function 11 -/
def ententeref13_Show.f (k : Nat) (a0_0 : Int) (a0_1 : Int) (a0_2 : Int) (l0_3 : List (S50)) (a0_4 : ByteArray) (a0_5 : Int) : Option (ByteArray × Int) := (ententeref13_Check.f k a0_0 a0_1 a0_2 l0_3 a0_4 a0_5).bind fun t359 => (if t359 = 0 then ((some (([(⟨#[]⟩ : ByteArray), (⟨#[111, 102, 102, 101, 114]⟩ : ByteArray), (⟨#[114, 101, 110, 101, 119]⟩ : ByteArray), (⟨#[99, 111, 109, 109, 105, 116]⟩ : ByteArray), (⟨#[117, 110, 100, 111]⟩ : ByteArray), (⟨#[104, 101, 108, 100]⟩ : ByteArray), (⟨#[103, 111, 110, 101]⟩ : ByteArray), (⟨#[107, 101, 112, 116]⟩ : ByteArray)] : List ByteArray) : List ByteArray)).bind fun y360 => ((ententeref03_Show.f k a0_1 a0_2 l0_3).bind fun bt363 => (if 0 ≤ a0_0 then (if a0_0 < (y360.length : Int) then (if (rdOf ByteArray.empty y360 a0_0).size + 1 ≤ 9223372036854775807 then (if (rdOf ByteArray.empty y360 a0_0).size + 1 + bt363.1.size ≤ 9223372036854775807 then (if a0_0 = 1 then (if (rdOf ByteArray.empty y360 a0_0).size + 1 + bt363.1.size + 1 ≤ 9223372036854775807 then (if (rdOf ByteArray.empty y360 a0_0).size + 1 + bt363.1.size + 1 + a0_4.size ≤ 9223372036854775807 then (if a0_0 = 6 then (if (rdOf ByteArray.empty y360 a0_0).size + 1 + bt363.1.size + 1 + a0_4.size + 1 ≤ 9223372036854775807 then ((ententeref03_Digits.f k a0_5).bind fun t366 => (if (rdOf ByteArray.empty y360 a0_0).size + 1 + bt363.1.size + 1 + a0_4.size + 1 + t366.size ≤ 9223372036854775807 then (some (((((((rdOf ByteArray.empty y360 a0_0) ++ (⟨#[32]⟩ : ByteArray)) ++ bt363.1) ++ (⟨#[32]⟩ : ByteArray)) ++ a0_4) ++ (⟨#[32]⟩ : ByteArray)) ++ t366, 0)) else (none))) else (none)) else (some (((((rdOf ByteArray.empty y360 a0_0) ++ (⟨#[32]⟩ : ByteArray)) ++ bt363.1) ++ (⟨#[32]⟩ : ByteArray)) ++ a0_4, 0))) else (none)) else (none)) else (if a0_0 = 6 then (if (rdOf ByteArray.empty y360 a0_0).size + 1 + bt363.1.size + 1 ≤ 9223372036854775807 then ((ententeref03_Digits.f k a0_5).bind fun t367 => (if (rdOf ByteArray.empty y360 a0_0).size + 1 + bt363.1.size + 1 + t367.size ≤ 9223372036854775807 then (some (((((rdOf ByteArray.empty y360 a0_0) ++ (⟨#[32]⟩ : ByteArray)) ++ bt363.1) ++ (⟨#[32]⟩ : ByteArray)) ++ t367, 0)) else (none))) else (none)) else (some (((rdOf ByteArray.empty y360 a0_0) ++ (⟨#[32]⟩ : ByteArray)) ++ bt363.1, 0)))) else (none)) else (none)) else (none)) else (none)))) else (some ((⟨#[]⟩ : ByteArray), 130)))
theorem ententeref13_Show.mono : ∀ a0 a1 a2 a3 a4 a5 k, LeO (ententeref13_Show.f k a0 a1 a2 a3 a4 a5) (ententeref13_Show.f (k + 1) a0 a1 a2 a3 a4 a5) := by
 intro a0 a1 a2 a3 a4 a5 k
 unfold ententeref13_Show.f
 repeat' first
   | (with_reducible exact ententeref03_Digits.mono _ _)
   | (with_reducible exact ententeref03_Show.mono _ _ _ _)
   | (with_reducible exact ententeref13_Check.mono _ _ _ _ _ _ _)
   | (with_reducible exact LeO.refl _)
   | (with_reducible exact LeO.none _)
   | (with_reducible refine LeO.ite ?_ ?_)
   | (with_reducible refine LeO.bind ?_ (fun _ => ?_))
   | exact ententeref03_Digits.mono _ _
   | exact ententeref03_Show.mono _ _ _ _
   | exact ententeref13_Check.mono _ _ _ _ _ _ _
   | exact LeO.none _
   | refine LeO.ite ?_ ?_
   | refine LeO.bind ?_ (fun _ => ?_)
set_option maxHeartbeats 8000000 in
set_option maxRecDepth 100000 in
theorem ententeref13_Show.calls (k : Nat) (a0_0 : Int) (a0_1 : Int) (a0_2 : Int) (A0_3 : Option Addr) (c0_3 : Nat) (l0_3 : List (S50)) (a0_4 : ByteArray) (a0_5 : Int) (r1 : ByteArray) (r2 : Int) (w : World) (hr0_3 : Kd.C k50 w A0_3 l0_3.length l0_3) (hc0_3 : l0_3.length ≤ c0_3) (h : ententeref13_Show.f k a0_0 a0_1 a0_2 l0_3 a0_4 a0_5 = some (r1, r2)) :
  Calls Tryd.prog 11 #[.agg #[.int .i64 a0_0, .int .i64 a0_1, .int .i64 a0_2, .slice A0_3 l0_3.length c0_3, .string a0_4, .int .i64 a0_5]] w fun e w' => e = .returned (.tuple #[.string r1, .int .i64 r2]) ∧ Below w.heap.size w w' := by
 have hu26 := Tryd.underlying26
 have hu24 := Tryd.underlying24
 have HR0_3 := Aside0.mk hr0_3
 have HC0_3 := Aside0.mk hc0_3
 clear hr0_3 hc0_3
 have HB := Aside0.mk (Below.refl w.heap.size w)
 have H : ((ententeref13_Check.f k a0_0 a0_1 a0_2 l0_3 a0_4 a0_5).bind fun t359 => (if t359 = 0 then ((some (([(⟨#[]⟩ : ByteArray), (⟨#[111, 102, 102, 101, 114]⟩ : ByteArray), (⟨#[114, 101, 110, 101, 119]⟩ : ByteArray), (⟨#[99, 111, 109, 109, 105, 116]⟩ : ByteArray), (⟨#[117, 110, 100, 111]⟩ : ByteArray), (⟨#[104, 101, 108, 100]⟩ : ByteArray), (⟨#[103, 111, 110, 101]⟩ : ByteArray), (⟨#[107, 101, 112, 116]⟩ : ByteArray)] : List ByteArray) : List ByteArray)).bind fun y360 => ((ententeref03_Show.f k a0_1 a0_2 l0_3).bind fun bt363 => (if 0 ≤ a0_0 then (if a0_0 < (y360.length : Int) then (if (rdOf ByteArray.empty y360 a0_0).size + 1 ≤ 9223372036854775807 then (if (rdOf ByteArray.empty y360 a0_0).size + 1 + bt363.1.size ≤ 9223372036854775807 then (if a0_0 = 1 then (if (rdOf ByteArray.empty y360 a0_0).size + 1 + bt363.1.size + 1 ≤ 9223372036854775807 then (if (rdOf ByteArray.empty y360 a0_0).size + 1 + bt363.1.size + 1 + a0_4.size ≤ 9223372036854775807 then (if a0_0 = 6 then (if (rdOf ByteArray.empty y360 a0_0).size + 1 + bt363.1.size + 1 + a0_4.size + 1 ≤ 9223372036854775807 then ((ententeref03_Digits.f k a0_5).bind fun t366 => (if (rdOf ByteArray.empty y360 a0_0).size + 1 + bt363.1.size + 1 + a0_4.size + 1 + t366.size ≤ 9223372036854775807 then (some (((((((rdOf ByteArray.empty y360 a0_0) ++ (⟨#[32]⟩ : ByteArray)) ++ bt363.1) ++ (⟨#[32]⟩ : ByteArray)) ++ a0_4) ++ (⟨#[32]⟩ : ByteArray)) ++ t366, 0)) else (none))) else (none)) else (some (((((rdOf ByteArray.empty y360 a0_0) ++ (⟨#[32]⟩ : ByteArray)) ++ bt363.1) ++ (⟨#[32]⟩ : ByteArray)) ++ a0_4, 0))) else (none)) else (none)) else (if a0_0 = 6 then (if (rdOf ByteArray.empty y360 a0_0).size + 1 + bt363.1.size + 1 ≤ 9223372036854775807 then ((ententeref03_Digits.f k a0_5).bind fun t367 => (if (rdOf ByteArray.empty y360 a0_0).size + 1 + bt363.1.size + 1 + t367.size ≤ 9223372036854775807 then (some (((((rdOf ByteArray.empty y360 a0_0) ++ (⟨#[32]⟩ : ByteArray)) ++ bt363.1) ++ (⟨#[32]⟩ : ByteArray)) ++ t367, 0)) else (none))) else (none)) else (some (((rdOf ByteArray.empty y360 a0_0) ++ (⟨#[32]⟩ : ByteArray)) ++ bt363.1, 0)))) else (none)) else (none)) else (none)) else (none)))) else (some ((⟨#[]⟩ : ByteArray), 130)))) = some (r1, r2) := h
 clear h
 obtain ⟨t359, A20, H⟩ := Option.bind_eq_some_iff.mp H
 try dsimp only at H
 have A2 := Aside0.mk A20
 clear A20
 by_cases c3 : t359 = 0
 ·rw [if_pos c3] at H
  have c3b0 : (t359 == 0) = true := beq_iff_eq.mpr c3
  have c3b1 : (t359 != 0) = false := bne_eq_false_iff_eq.mpr c3
  clear c3
  obtain ⟨y360, hy360⟩ : ∃ y_ : List ByteArray, y_ = (([(⟨#[]⟩ : ByteArray), (⟨#[111, 102, 102, 101, 114]⟩ : ByteArray), (⟨#[114, 101, 110, 101, 119]⟩ : ByteArray), (⟨#[99, 111, 109, 109, 105, 116]⟩ : ByteArray), (⟨#[117, 110, 100, 111]⟩ : ByteArray), (⟨#[104, 101, 108, 100]⟩ : ByteArray), (⟨#[103, 111, 110, 101]⟩ : ByteArray), (⟨#[107, 101, 112, 116]⟩ : ByteArray)] : List ByteArray)) := ⟨_, rfl⟩
  replace H : ((ententeref03_Show.f k a0_1 a0_2 l0_3).bind fun bt363 => (if 0 ≤ a0_0 then (if a0_0 < (y360.length : Int) then (if (rdOf ByteArray.empty y360 a0_0).size + 1 ≤ 9223372036854775807 then (if (rdOf ByteArray.empty y360 a0_0).size + 1 + bt363.1.size ≤ 9223372036854775807 then (if a0_0 = 1 then (if (rdOf ByteArray.empty y360 a0_0).size + 1 + bt363.1.size + 1 ≤ 9223372036854775807 then (if (rdOf ByteArray.empty y360 a0_0).size + 1 + bt363.1.size + 1 + a0_4.size ≤ 9223372036854775807 then (if a0_0 = 6 then (if (rdOf ByteArray.empty y360 a0_0).size + 1 + bt363.1.size + 1 + a0_4.size + 1 ≤ 9223372036854775807 then ((ententeref03_Digits.f k a0_5).bind fun t366 => (if (rdOf ByteArray.empty y360 a0_0).size + 1 + bt363.1.size + 1 + a0_4.size + 1 + t366.size ≤ 9223372036854775807 then (some (((((((rdOf ByteArray.empty y360 a0_0) ++ (⟨#[32]⟩ : ByteArray)) ++ bt363.1) ++ (⟨#[32]⟩ : ByteArray)) ++ a0_4) ++ (⟨#[32]⟩ : ByteArray)) ++ t366, 0)) else (none))) else (none)) else (some (((((rdOf ByteArray.empty y360 a0_0) ++ (⟨#[32]⟩ : ByteArray)) ++ bt363.1) ++ (⟨#[32]⟩ : ByteArray)) ++ a0_4, 0))) else (none)) else (none)) else (if a0_0 = 6 then (if (rdOf ByteArray.empty y360 a0_0).size + 1 + bt363.1.size + 1 ≤ 9223372036854775807 then ((ententeref03_Digits.f k a0_5).bind fun t367 => (if (rdOf ByteArray.empty y360 a0_0).size + 1 + bt363.1.size + 1 + t367.size ≤ 9223372036854775807 then (some (((((rdOf ByteArray.empty y360 a0_0) ++ (⟨#[32]⟩ : ByteArray)) ++ bt363.1) ++ (⟨#[32]⟩ : ByteArray)) ++ t367, 0)) else (none))) else (none)) else (some (((rdOf ByteArray.empty y360 a0_0) ++ (⟨#[32]⟩ : ByteArray)) ++ bt363.1, 0)))) else (none)) else (none)) else (none)) else (none))) = some (r1, r2) := by (have H2_ := (Option.bind_some _ _).symm.trans H; rw [hy360]; with_reducible exact H2_)
  have Ny360 := Aside0.mk hy360
  clear hy360
  obtain ⟨⟨t363, t364⟩, A40, H⟩ := Option.bind_eq_some_iff.mp H
  try dsimp only at H
  have A4 := Aside0.mk A40
  clear A40
  by_cases c5 : 0 ≤ a0_0
  ·rw [if_pos c5] at H
   have c5b0 : decide (0 ≤ a0_0) = true := decide_eq_true c5
   clear c5
   by_cases c6 : a0_0 < (y360.length : Int)
   ·rw [if_pos c6] at H
    have c6b0 : decide (a0_0 < (y360.length : Int)) = true := decide_eq_true c6
    clear c6
    by_cases c7 : (rdOf ByteArray.empty y360 a0_0).size + 1 ≤ 9223372036854775807
    ·rw [if_pos c7] at H
     have c7b0 := eq_true c7
     have c7b1 : decide ((rdOf ByteArray.empty y360 a0_0).size + 1 ≤ 9223372036854775807) = true := decide_eq_true c7
     try have c7b2 : (9223372036854775807 < (rdOf ByteArray.empty y360 a0_0).size + 1) = False := eq_false (Nat.not_lt.2 c7)
     by_cases c8 : (rdOf ByteArray.empty y360 a0_0).size + 1 + t363.size ≤ 9223372036854775807
     ·rw [if_pos c8] at H
      have c8b0 := eq_true c8
      have c8b1 : decide ((rdOf ByteArray.empty y360 a0_0).size + 1 + t363.size ≤ 9223372036854775807) = true := decide_eq_true c8
      try have c8b2 : (9223372036854775807 < (rdOf ByteArray.empty y360 a0_0).size + 1 + t363.size) = False := eq_false (Nat.not_lt.2 c8)
      by_cases c9 : a0_0 = 1
      ·rw [if_pos c9] at H
       have c9b0 : (a0_0 == 1) = true := beq_iff_eq.mpr c9
       have c9b1 : (a0_0 != 1) = false := bne_eq_false_iff_eq.mpr c9
       clear c9
       by_cases c10 : (rdOf ByteArray.empty y360 a0_0).size + 1 + t363.size + 1 ≤ 9223372036854775807
       ·rw [if_pos c10] at H
        have c10b0 := eq_true c10
        have c10b1 : decide ((rdOf ByteArray.empty y360 a0_0).size + 1 + t363.size + 1 ≤ 9223372036854775807) = true := decide_eq_true c10
        try have c10b2 : (9223372036854775807 < (rdOf ByteArray.empty y360 a0_0).size + 1 + t363.size + 1) = False := eq_false (Nat.not_lt.2 c10)
        by_cases c11 : (rdOf ByteArray.empty y360 a0_0).size + 1 + t363.size + 1 + a0_4.size ≤ 9223372036854775807
        ·rw [if_pos c11] at H
         have c11b0 := eq_true c11
         have c11b1 : decide ((rdOf ByteArray.empty y360 a0_0).size + 1 + t363.size + 1 + a0_4.size ≤ 9223372036854775807) = true := decide_eq_true c11
         try have c11b2 : (9223372036854775807 < (rdOf ByteArray.empty y360 a0_0).size + 1 + t363.size + 1 + a0_4.size) = False := eq_false (Nat.not_lt.2 c11)
         by_cases c12 : a0_0 = 6
         ·rw [if_pos c12] at H
          have c12b0 : (a0_0 == 6) = true := beq_iff_eq.mpr c12
          have c12b1 : (a0_0 != 6) = false := bne_eq_false_iff_eq.mpr c12
          clear c12
          by_cases c13 : (rdOf ByteArray.empty y360 a0_0).size + 1 + t363.size + 1 + a0_4.size + 1 ≤ 9223372036854775807
          ·rw [if_pos c13] at H
           have c13b0 := eq_true c13
           have c13b1 : decide ((rdOf ByteArray.empty y360 a0_0).size + 1 + t363.size + 1 + a0_4.size + 1 ≤ 9223372036854775807) = true := decide_eq_true c13
           try have c13b2 : (9223372036854775807 < (rdOf ByteArray.empty y360 a0_0).size + 1 + t363.size + 1 + a0_4.size + 1) = False := eq_false (Nat.not_lt.2 c13)
           obtain ⟨t366, A140, H⟩ := Option.bind_eq_some_iff.mp H
           try dsimp only at H
           have A14 := Aside0.mk A140
           clear A140
           by_cases c15 : (rdOf ByteArray.empty y360 a0_0).size + 1 + t363.size + 1 + a0_4.size + 1 + t366.size ≤ 9223372036854775807
           ·rw [if_pos c15] at H
            have c15b0 := eq_true c15
            have c15b1 : decide ((rdOf ByteArray.empty y360 a0_0).size + 1 + t363.size + 1 + a0_4.size + 1 + t366.size ≤ 9223372036854775807) = true := decide_eq_true c15
            try have c15b2 : (9223372036854775807 < (rdOf ByteArray.empty y360 a0_0).size + 1 + t363.size + 1 + a0_4.size + 1 + t366.size) = False := eq_false (Nat.not_lt.2 c15)
            simp only [Option.some.injEq, Prod.mk.injEq] at H
            obtain ⟨rfl, rfl⟩ := H
            go_enter Tryd.func11, Tryd.ntmps11
            go_wp2_with (first | ((with_reducible refine gate_dst (N := 1) rfl ?_); refine box_event ?hg (N := 1) ?hd (cs := #[.int .i64 a0_0, .int .i64 a0_1, .int .i64 a0_2, .slice A0_3 l0_3.length c0_3, .string a0_4, .int .i64 a0_5]) (t := 26) ?hr ?_; (case hd => rfl); (case hg => rfl); (case hr => (go_simp; done)); intro gb358 hg w16 hbox hb; have BK358 := Aside0.mk (hbox); have GW358 := Aside0.mk ((by rw [hg]; exact (below_size (HB.out)) : w.heap.size ≤ gb358)); have GE358 := Aside0.mk ((by rw [hg]; exact (below_size (HB.out)) : w.heap.size ≤ gb358)); replace HB := Aside0.mk (below_step (HB.out) hb); clear hb hbox hg; obtain ⟨hcz17_0, hcz17_1, hcz17_2, hcz17_3, hcz17_4, hcz17_5⟩ := bc6 BK358.out; obtain ⟨hfz17_0, hfz17_1, hfz17_2, hfz17_3, hfz17_4, hfz17_5⟩ := bf6 BK358.out) | ((with_reducible refine gate_callee (f := 13) rfl ?_); refine goesL_ (some 9) rfl rfl Tryd.func13 (by kernel_rfl) rfl #[.agg #[.int .i64 a0_0, .int .i64 a0_1, .int .i64 a0_2, .slice A0_3 l0_3.length c0_3, .string a0_4, .int .i64 a0_5]] rfl (by (try simp only [List.map_toArray, List.map_cons, List.map_nil]); rfl) ?_; (with_reducible refine (ententeref13_Check.calls k a0_0 a0_1 a0_2 _ _ l0_3 a0_4 a0_5 t359 _ ?side1 ?side2 A2.out).mono ?_); (case side1 => exact (Kd.C_below HR0_3.out HB.out)); (case side2 => exact HC0_3.out); rintro e w18 ⟨rfl, hb⟩; refine ⟨_, rfl, ?_⟩; replace BK358 := Aside0.mk (blk_below BK358.out hb); replace HB := Aside0.mk (below_step (HB.out) hb); clear hb) | ((with_reducible refine gate_dst (N := 11) rfl ?_); refine Kd.R_lit Kd.string _ 9 ?hg (N := 11) ?hd (xs := ([(⟨#[]⟩ : ByteArray), (⟨#[111, 102, 102, 101, 114]⟩ : ByteArray), (⟨#[114, 101, 110, 101, 119]⟩ : ByteArray), (⟨#[99, 111, 109, 109, 105, 116]⟩ : ByteArray), (⟨#[117, 110, 100, 111]⟩ : ByteArray), (⟨#[104, 101, 108, 100]⟩ : ByteArray), (⟨#[103, 111, 110, 101]⟩ : ByteArray), (⟨#[107, 101, 112, 116]⟩ : ByteArray)] : List ByteArray)) (inner := [.string (⟨#[]⟩ : ByteArray), .string (⟨#[111, 102, 102, 101, 114]⟩ : ByteArray), .string (⟨#[114, 101, 110, 101, 119]⟩ : ByteArray), .string (⟨#[99, 111, 109, 109, 105, 116]⟩ : ByteArray), .string (⟨#[117, 110, 100, 111]⟩ : ByteArray), .string (⟨#[104, 101, 108, 100]⟩ : ByteArray), .string (⟨#[103, 111, 110, 101]⟩ : ByteArray), .string (⟨#[107, 101, 112, 116]⟩ : ByteArray)]) (ok := fun _ => True) (okp := fun _ => True) ?hr ?hp (fun _ hk => hk) trivial (Below.refl _ _) (Nat.le_refl _) (by simp) ?_; (case hd => rfl); (case hg => rfl); (case hr => (go_simp; done)); (case hp => exact (Reps.one (show Kd.M Kd.string _ _ _ (⟨#[]⟩ : ByteArray) [.string (⟨#[]⟩ : ByteArray)] from rfl) (Reps.one (show Kd.M Kd.string _ _ _ (⟨#[111, 102, 102, 101, 114]⟩ : ByteArray) [.string (⟨#[111, 102, 102, 101, 114]⟩ : ByteArray)] from rfl) (Reps.one (show Kd.M Kd.string _ _ _ (⟨#[114, 101, 110, 101, 119]⟩ : ByteArray) [.string (⟨#[114, 101, 110, 101, 119]⟩ : ByteArray)] from rfl) (Reps.one (show Kd.M Kd.string _ _ _ (⟨#[99, 111, 109, 109, 105, 116]⟩ : ByteArray) [.string (⟨#[99, 111, 109, 109, 105, 116]⟩ : ByteArray)] from rfl) (Reps.one (show Kd.M Kd.string _ _ _ (⟨#[117, 110, 100, 111]⟩ : ByteArray) [.string (⟨#[117, 110, 100, 111]⟩ : ByteArray)] from rfl) (Reps.one (show Kd.M Kd.string _ _ _ (⟨#[104, 101, 108, 100]⟩ : ByteArray) [.string (⟨#[104, 101, 108, 100]⟩ : ByteArray)] from rfl) (Reps.one (show Kd.M Kd.string _ _ _ (⟨#[103, 111, 110, 101]⟩ : ByteArray) [.string (⟨#[103, 111, 110, 101]⟩ : ByteArray)] from rfl) (Reps.one (show Kd.M Kd.string _ _ _ (⟨#[107, 101, 112, 116]⟩ : ByteArray) [.string (⟨#[107, 101, 112, 116]⟩ : ByteArray)] from rfl) (Reps.none _ _)))))))))); intro v361 w19 ho20 hb hg_ hnew_; clear hg_ hnew_; (rw [← Ny360.out] at ho20); have HO362 := Aside0.mk (Kd.R_lower ho20 (below_size (HB.out))); replace BK358 := Aside0.mk (blk_below BK358.out hb); replace HB := Aside0.mk (below_step (HB.out) hb); clear hb ho20; obtain ⟨hcz21_0, hcz21_1, hcz21_2, hcz21_3, hcz21_4, hcz21_5⟩ := bc6 BK358.out; obtain ⟨hfz21_0, hfz21_1, hfz21_2, hfz21_3, hfz21_4, hfz21_5⟩ := bf6 BK358.out) | ((with_reducible refine gate_callee (f := 25) rfl ?_); refine goesL_ (some 15) rfl rfl Tryd.func25 (by kernel_rfl) rfl #[.agg #[.int .i64 a0_1, .int .i64 a0_2, .slice A0_3 l0_3.length c0_3]] rfl (by (try simp only [List.map_toArray, List.map_cons, List.map_nil]); rfl) ?_; (with_reducible refine (ententeref03_Show.calls k a0_1 a0_2 _ _ l0_3 t363 t364 _ ?side1 ?side2 A4.out).mono ?_); (case side1 => exact (Kd.C_below HR0_3.out HB.out)); (case side2 => exact HC0_3.out); rintro e w22 ⟨rfl, hb⟩; refine ⟨_, rfl, ?_⟩; replace HO362 := Aside0.mk (Kd.R_below (by exact HO362.out) hb); replace BK358 := Aside0.mk (blk_below BK358.out hb); replace HB := Aside0.mk (below_step (HB.out) hb); clear hb; obtain ⟨hcz23_0, hcz23_1, hcz23_2, hcz23_3, hcz23_4, hcz23_5⟩ := bc6 BK358.out; obtain ⟨hfz23_0, hfz23_1, hfz23_2, hfz23_3, hfz23_4, hfz23_5⟩ := bf6 BK358.out; obtain ⟨Ao24, co24, eo24⟩ := Kd.R_slice HO362.out; subst eo24; have p365 : 0 ≤ (a0_0 : Int) := of_decide_eq_true (by (with_reducible assumption)); have q365 : a0_0 < (y360.length : Int) := of_decide_eq_true (by (with_reducible assumption)); obtain ⟨ad365, e365, hx365_0⟩ := Kd.at_string (Kd.R_reads' HO362.out).2.2 a0_0 p365 q365; cases e365; replace p365 := eq_true p365; replace q365 := eq_true q365) | ((with_reducible refine gate_callee (f := 26) rfl ?_); refine goesL_ (some 41) rfl rfl Tryd.func26 (by kernel_rfl) rfl #[.int .i64 a0_5] rfl (by (try simp only [List.map_toArray, List.map_cons, List.map_nil]); rfl) ?_; (with_reducible refine (ententeref03_Digits.calls k a0_5 t366 _ A14.out).mono ?_); rintro e w' ⟨rfl, ⟨nd, rfl⟩⟩; refine ⟨_, rfl, ?_⟩))
            go_ret2
            exact ⟨by rfl, pw_below_drewN HB.out _⟩
           ·rw [if_neg c15] at H
            exact absurd H (by simp)
          ·rw [if_neg c13] at H
           exact absurd H (by simp)
         ·rw [if_neg c12] at H
          have c12b0 : (a0_0 == 6) = false := beq_eq_false_iff_ne.mpr c12
          have c12b1 : (a0_0 != 6) = true := bne_iff_ne.mpr c12
          simp only [Option.some.injEq, Prod.mk.injEq] at H
          obtain ⟨rfl, rfl⟩ := H
          go_enter Tryd.func11, Tryd.ntmps11
          go_wp2_with (first | ((with_reducible refine gate_dst (N := 1) rfl ?_); refine box_event ?hg (N := 1) ?hd (cs := #[.int .i64 a0_0, .int .i64 a0_1, .int .i64 a0_2, .slice A0_3 l0_3.length c0_3, .string a0_4, .int .i64 a0_5]) (t := 26) ?hr ?_; (case hd => rfl); (case hg => rfl); (case hr => (go_simp; done)); intro gb358 hg w25 hbox hb; have BK358 := Aside0.mk (hbox); have GW358 := Aside0.mk ((by rw [hg]; exact (below_size (HB.out)) : w.heap.size ≤ gb358)); have GE358 := Aside0.mk ((by rw [hg]; exact (below_size (HB.out)) : w.heap.size ≤ gb358)); replace HB := Aside0.mk (below_step (HB.out) hb); clear hb hbox hg; obtain ⟨hcz26_0, hcz26_1, hcz26_2, hcz26_3, hcz26_4, hcz26_5⟩ := bc6 BK358.out; obtain ⟨hfz26_0, hfz26_1, hfz26_2, hfz26_3, hfz26_4, hfz26_5⟩ := bf6 BK358.out) | ((with_reducible refine gate_callee (f := 13) rfl ?_); refine goesL_ (some 9) rfl rfl Tryd.func13 (by kernel_rfl) rfl #[.agg #[.int .i64 a0_0, .int .i64 a0_1, .int .i64 a0_2, .slice A0_3 l0_3.length c0_3, .string a0_4, .int .i64 a0_5]] rfl (by (try simp only [List.map_toArray, List.map_cons, List.map_nil]); rfl) ?_; (with_reducible refine (ententeref13_Check.calls k a0_0 a0_1 a0_2 _ _ l0_3 a0_4 a0_5 t359 _ ?side1 ?side2 A2.out).mono ?_); (case side1 => exact (Kd.C_below HR0_3.out HB.out)); (case side2 => exact HC0_3.out); rintro e w27 ⟨rfl, hb⟩; refine ⟨_, rfl, ?_⟩; replace BK358 := Aside0.mk (blk_below BK358.out hb); replace HB := Aside0.mk (below_step (HB.out) hb); clear hb) | ((with_reducible refine gate_dst (N := 11) rfl ?_); refine Kd.R_lit Kd.string _ 9 ?hg (N := 11) ?hd (xs := ([(⟨#[]⟩ : ByteArray), (⟨#[111, 102, 102, 101, 114]⟩ : ByteArray), (⟨#[114, 101, 110, 101, 119]⟩ : ByteArray), (⟨#[99, 111, 109, 109, 105, 116]⟩ : ByteArray), (⟨#[117, 110, 100, 111]⟩ : ByteArray), (⟨#[104, 101, 108, 100]⟩ : ByteArray), (⟨#[103, 111, 110, 101]⟩ : ByteArray), (⟨#[107, 101, 112, 116]⟩ : ByteArray)] : List ByteArray)) (inner := [.string (⟨#[]⟩ : ByteArray), .string (⟨#[111, 102, 102, 101, 114]⟩ : ByteArray), .string (⟨#[114, 101, 110, 101, 119]⟩ : ByteArray), .string (⟨#[99, 111, 109, 109, 105, 116]⟩ : ByteArray), .string (⟨#[117, 110, 100, 111]⟩ : ByteArray), .string (⟨#[104, 101, 108, 100]⟩ : ByteArray), .string (⟨#[103, 111, 110, 101]⟩ : ByteArray), .string (⟨#[107, 101, 112, 116]⟩ : ByteArray)]) (ok := fun _ => True) (okp := fun _ => True) ?hr ?hp (fun _ hk => hk) trivial (Below.refl _ _) (Nat.le_refl _) (by simp) ?_; (case hd => rfl); (case hg => rfl); (case hr => (go_simp; done)); (case hp => exact (Reps.one (show Kd.M Kd.string _ _ _ (⟨#[]⟩ : ByteArray) [.string (⟨#[]⟩ : ByteArray)] from rfl) (Reps.one (show Kd.M Kd.string _ _ _ (⟨#[111, 102, 102, 101, 114]⟩ : ByteArray) [.string (⟨#[111, 102, 102, 101, 114]⟩ : ByteArray)] from rfl) (Reps.one (show Kd.M Kd.string _ _ _ (⟨#[114, 101, 110, 101, 119]⟩ : ByteArray) [.string (⟨#[114, 101, 110, 101, 119]⟩ : ByteArray)] from rfl) (Reps.one (show Kd.M Kd.string _ _ _ (⟨#[99, 111, 109, 109, 105, 116]⟩ : ByteArray) [.string (⟨#[99, 111, 109, 109, 105, 116]⟩ : ByteArray)] from rfl) (Reps.one (show Kd.M Kd.string _ _ _ (⟨#[117, 110, 100, 111]⟩ : ByteArray) [.string (⟨#[117, 110, 100, 111]⟩ : ByteArray)] from rfl) (Reps.one (show Kd.M Kd.string _ _ _ (⟨#[104, 101, 108, 100]⟩ : ByteArray) [.string (⟨#[104, 101, 108, 100]⟩ : ByteArray)] from rfl) (Reps.one (show Kd.M Kd.string _ _ _ (⟨#[103, 111, 110, 101]⟩ : ByteArray) [.string (⟨#[103, 111, 110, 101]⟩ : ByteArray)] from rfl) (Reps.one (show Kd.M Kd.string _ _ _ (⟨#[107, 101, 112, 116]⟩ : ByteArray) [.string (⟨#[107, 101, 112, 116]⟩ : ByteArray)] from rfl) (Reps.none _ _)))))))))); intro v361 w28 ho29 hb hg_ hnew_; clear hg_ hnew_; (rw [← Ny360.out] at ho29); have HO362 := Aside0.mk (Kd.R_lower ho29 (below_size (HB.out))); replace BK358 := Aside0.mk (blk_below BK358.out hb); replace HB := Aside0.mk (below_step (HB.out) hb); clear hb ho29; obtain ⟨hcz30_0, hcz30_1, hcz30_2, hcz30_3, hcz30_4, hcz30_5⟩ := bc6 BK358.out; obtain ⟨hfz30_0, hfz30_1, hfz30_2, hfz30_3, hfz30_4, hfz30_5⟩ := bf6 BK358.out) | ((with_reducible refine gate_callee (f := 25) rfl ?_); refine goesL_ (some 15) rfl rfl Tryd.func25 (by kernel_rfl) rfl #[.agg #[.int .i64 a0_1, .int .i64 a0_2, .slice A0_3 l0_3.length c0_3]] rfl (by (try simp only [List.map_toArray, List.map_cons, List.map_nil]); rfl) ?_; (with_reducible refine (ententeref03_Show.calls k a0_1 a0_2 _ _ l0_3 t363 t364 _ ?side1 ?side2 A4.out).mono ?_); (case side1 => exact (Kd.C_below HR0_3.out HB.out)); (case side2 => exact HC0_3.out); rintro e w31 ⟨rfl, hb⟩; refine ⟨_, rfl, ?_⟩; replace HO362 := Aside0.mk (Kd.R_below (by exact HO362.out) hb); replace BK358 := Aside0.mk (blk_below BK358.out hb); replace HB := Aside0.mk (below_step (HB.out) hb); clear hb; obtain ⟨hcz32_0, hcz32_1, hcz32_2, hcz32_3, hcz32_4, hcz32_5⟩ := bc6 BK358.out; obtain ⟨hfz32_0, hfz32_1, hfz32_2, hfz32_3, hfz32_4, hfz32_5⟩ := bf6 BK358.out; obtain ⟨Ao33, co33, eo33⟩ := Kd.R_slice HO362.out; subst eo33; have p365 : 0 ≤ (a0_0 : Int) := of_decide_eq_true (by (with_reducible assumption)); have q365 : a0_0 < (y360.length : Int) := of_decide_eq_true (by (with_reducible assumption)); obtain ⟨ad365, e365, hx365_0⟩ := Kd.at_string (Kd.R_reads' HO362.out).2.2 a0_0 p365 q365; cases e365; replace p365 := eq_true p365; replace q365 := eq_true q365))
          go_ret2
          exact ⟨by rfl, HB.out⟩
        ·rw [if_neg c11] at H
         exact absurd H (by simp)
       ·rw [if_neg c10] at H
        exact absurd H (by simp)
      ·rw [if_neg c9] at H
       have c9b0 : (a0_0 == 1) = false := beq_eq_false_iff_ne.mpr c9
       have c9b1 : (a0_0 != 1) = true := bne_iff_ne.mpr c9
       by_cases c34 : a0_0 = 6
       ·rw [if_pos c34] at H
        have c34b0 : (a0_0 == 6) = true := beq_iff_eq.mpr c34
        have c34b1 : (a0_0 != 6) = false := bne_eq_false_iff_eq.mpr c34
        clear c34
        by_cases c35 : (rdOf ByteArray.empty y360 a0_0).size + 1 + t363.size + 1 ≤ 9223372036854775807
        ·rw [if_pos c35] at H
         have c35b0 := eq_true c35
         have c35b1 : decide ((rdOf ByteArray.empty y360 a0_0).size + 1 + t363.size + 1 ≤ 9223372036854775807) = true := decide_eq_true c35
         try have c35b2 : (9223372036854775807 < (rdOf ByteArray.empty y360 a0_0).size + 1 + t363.size + 1) = False := eq_false (Nat.not_lt.2 c35)
         obtain ⟨t367, A360, H⟩ := Option.bind_eq_some_iff.mp H
         try dsimp only at H
         have A36 := Aside0.mk A360
         clear A360
         by_cases c37 : (rdOf ByteArray.empty y360 a0_0).size + 1 + t363.size + 1 + t367.size ≤ 9223372036854775807
         ·rw [if_pos c37] at H
          have c37b0 := eq_true c37
          have c37b1 : decide ((rdOf ByteArray.empty y360 a0_0).size + 1 + t363.size + 1 + t367.size ≤ 9223372036854775807) = true := decide_eq_true c37
          try have c37b2 : (9223372036854775807 < (rdOf ByteArray.empty y360 a0_0).size + 1 + t363.size + 1 + t367.size) = False := eq_false (Nat.not_lt.2 c37)
          simp only [Option.some.injEq, Prod.mk.injEq] at H
          obtain ⟨rfl, rfl⟩ := H
          go_enter Tryd.func11, Tryd.ntmps11
          go_wp2_with (first | ((with_reducible refine gate_dst (N := 1) rfl ?_); refine box_event ?hg (N := 1) ?hd (cs := #[.int .i64 a0_0, .int .i64 a0_1, .int .i64 a0_2, .slice A0_3 l0_3.length c0_3, .string a0_4, .int .i64 a0_5]) (t := 26) ?hr ?_; (case hd => rfl); (case hg => rfl); (case hr => (go_simp; done)); intro gb358 hg w38 hbox hb; have BK358 := Aside0.mk (hbox); have GW358 := Aside0.mk ((by rw [hg]; exact (below_size (HB.out)) : w.heap.size ≤ gb358)); have GE358 := Aside0.mk ((by rw [hg]; exact (below_size (HB.out)) : w.heap.size ≤ gb358)); replace HB := Aside0.mk (below_step (HB.out) hb); clear hb hbox hg; obtain ⟨hcz39_0, hcz39_1, hcz39_2, hcz39_3, hcz39_4, hcz39_5⟩ := bc6 BK358.out; obtain ⟨hfz39_0, hfz39_1, hfz39_2, hfz39_3, hfz39_4, hfz39_5⟩ := bf6 BK358.out) | ((with_reducible refine gate_callee (f := 13) rfl ?_); refine goesL_ (some 9) rfl rfl Tryd.func13 (by kernel_rfl) rfl #[.agg #[.int .i64 a0_0, .int .i64 a0_1, .int .i64 a0_2, .slice A0_3 l0_3.length c0_3, .string a0_4, .int .i64 a0_5]] rfl (by (try simp only [List.map_toArray, List.map_cons, List.map_nil]); rfl) ?_; (with_reducible refine (ententeref13_Check.calls k a0_0 a0_1 a0_2 _ _ l0_3 a0_4 a0_5 t359 _ ?side1 ?side2 A2.out).mono ?_); (case side1 => exact (Kd.C_below HR0_3.out HB.out)); (case side2 => exact HC0_3.out); rintro e w40 ⟨rfl, hb⟩; refine ⟨_, rfl, ?_⟩; replace BK358 := Aside0.mk (blk_below BK358.out hb); replace HB := Aside0.mk (below_step (HB.out) hb); clear hb) | ((with_reducible refine gate_dst (N := 11) rfl ?_); refine Kd.R_lit Kd.string _ 9 ?hg (N := 11) ?hd (xs := ([(⟨#[]⟩ : ByteArray), (⟨#[111, 102, 102, 101, 114]⟩ : ByteArray), (⟨#[114, 101, 110, 101, 119]⟩ : ByteArray), (⟨#[99, 111, 109, 109, 105, 116]⟩ : ByteArray), (⟨#[117, 110, 100, 111]⟩ : ByteArray), (⟨#[104, 101, 108, 100]⟩ : ByteArray), (⟨#[103, 111, 110, 101]⟩ : ByteArray), (⟨#[107, 101, 112, 116]⟩ : ByteArray)] : List ByteArray)) (inner := [.string (⟨#[]⟩ : ByteArray), .string (⟨#[111, 102, 102, 101, 114]⟩ : ByteArray), .string (⟨#[114, 101, 110, 101, 119]⟩ : ByteArray), .string (⟨#[99, 111, 109, 109, 105, 116]⟩ : ByteArray), .string (⟨#[117, 110, 100, 111]⟩ : ByteArray), .string (⟨#[104, 101, 108, 100]⟩ : ByteArray), .string (⟨#[103, 111, 110, 101]⟩ : ByteArray), .string (⟨#[107, 101, 112, 116]⟩ : ByteArray)]) (ok := fun _ => True) (okp := fun _ => True) ?hr ?hp (fun _ hk => hk) trivial (Below.refl _ _) (Nat.le_refl _) (by simp) ?_; (case hd => rfl); (case hg => rfl); (case hr => (go_simp; done)); (case hp => exact (Reps.one (show Kd.M Kd.string _ _ _ (⟨#[]⟩ : ByteArray) [.string (⟨#[]⟩ : ByteArray)] from rfl) (Reps.one (show Kd.M Kd.string _ _ _ (⟨#[111, 102, 102, 101, 114]⟩ : ByteArray) [.string (⟨#[111, 102, 102, 101, 114]⟩ : ByteArray)] from rfl) (Reps.one (show Kd.M Kd.string _ _ _ (⟨#[114, 101, 110, 101, 119]⟩ : ByteArray) [.string (⟨#[114, 101, 110, 101, 119]⟩ : ByteArray)] from rfl) (Reps.one (show Kd.M Kd.string _ _ _ (⟨#[99, 111, 109, 109, 105, 116]⟩ : ByteArray) [.string (⟨#[99, 111, 109, 109, 105, 116]⟩ : ByteArray)] from rfl) (Reps.one (show Kd.M Kd.string _ _ _ (⟨#[117, 110, 100, 111]⟩ : ByteArray) [.string (⟨#[117, 110, 100, 111]⟩ : ByteArray)] from rfl) (Reps.one (show Kd.M Kd.string _ _ _ (⟨#[104, 101, 108, 100]⟩ : ByteArray) [.string (⟨#[104, 101, 108, 100]⟩ : ByteArray)] from rfl) (Reps.one (show Kd.M Kd.string _ _ _ (⟨#[103, 111, 110, 101]⟩ : ByteArray) [.string (⟨#[103, 111, 110, 101]⟩ : ByteArray)] from rfl) (Reps.one (show Kd.M Kd.string _ _ _ (⟨#[107, 101, 112, 116]⟩ : ByteArray) [.string (⟨#[107, 101, 112, 116]⟩ : ByteArray)] from rfl) (Reps.none _ _)))))))))); intro v361 w41 ho42 hb hg_ hnew_; clear hg_ hnew_; (rw [← Ny360.out] at ho42); have HO362 := Aside0.mk (Kd.R_lower ho42 (below_size (HB.out))); replace BK358 := Aside0.mk (blk_below BK358.out hb); replace HB := Aside0.mk (below_step (HB.out) hb); clear hb ho42; obtain ⟨hcz43_0, hcz43_1, hcz43_2, hcz43_3, hcz43_4, hcz43_5⟩ := bc6 BK358.out; obtain ⟨hfz43_0, hfz43_1, hfz43_2, hfz43_3, hfz43_4, hfz43_5⟩ := bf6 BK358.out) | ((with_reducible refine gate_callee (f := 25) rfl ?_); refine goesL_ (some 15) rfl rfl Tryd.func25 (by kernel_rfl) rfl #[.agg #[.int .i64 a0_1, .int .i64 a0_2, .slice A0_3 l0_3.length c0_3]] rfl (by (try simp only [List.map_toArray, List.map_cons, List.map_nil]); rfl) ?_; (with_reducible refine (ententeref03_Show.calls k a0_1 a0_2 _ _ l0_3 t363 t364 _ ?side1 ?side2 A4.out).mono ?_); (case side1 => exact (Kd.C_below HR0_3.out HB.out)); (case side2 => exact HC0_3.out); rintro e w44 ⟨rfl, hb⟩; refine ⟨_, rfl, ?_⟩; replace HO362 := Aside0.mk (Kd.R_below (by exact HO362.out) hb); replace BK358 := Aside0.mk (blk_below BK358.out hb); replace HB := Aside0.mk (below_step (HB.out) hb); clear hb; obtain ⟨hcz45_0, hcz45_1, hcz45_2, hcz45_3, hcz45_4, hcz45_5⟩ := bc6 BK358.out; obtain ⟨hfz45_0, hfz45_1, hfz45_2, hfz45_3, hfz45_4, hfz45_5⟩ := bf6 BK358.out; obtain ⟨Ao46, co46, eo46⟩ := Kd.R_slice HO362.out; subst eo46; have p365 : 0 ≤ (a0_0 : Int) := of_decide_eq_true (by (with_reducible assumption)); have q365 : a0_0 < (y360.length : Int) := of_decide_eq_true (by (with_reducible assumption)); obtain ⟨ad365, e365, hx365_0⟩ := Kd.at_string (Kd.R_reads' HO362.out).2.2 a0_0 p365 q365; cases e365; replace p365 := eq_true p365; replace q365 := eq_true q365) | ((with_reducible refine gate_callee (f := 26) rfl ?_); refine goesL_ (some 41) rfl rfl Tryd.func26 (by kernel_rfl) rfl #[.int .i64 a0_5] rfl (by (try simp only [List.map_toArray, List.map_cons, List.map_nil]); rfl) ?_; (with_reducible refine (ententeref03_Digits.calls k a0_5 t367 _ A36.out).mono ?_); rintro e w' ⟨rfl, ⟨nd, rfl⟩⟩; refine ⟨_, rfl, ?_⟩))
          go_ret2
          exact ⟨by rfl, pw_below_drewN HB.out _⟩
         ·rw [if_neg c37] at H
          exact absurd H (by simp)
        ·rw [if_neg c35] at H
         exact absurd H (by simp)
       ·rw [if_neg c34] at H
        have c34b0 : (a0_0 == 6) = false := beq_eq_false_iff_ne.mpr c34
        have c34b1 : (a0_0 != 6) = true := bne_iff_ne.mpr c34
        simp only [Option.some.injEq, Prod.mk.injEq] at H
        obtain ⟨rfl, rfl⟩ := H
        go_enter Tryd.func11, Tryd.ntmps11
        go_wp2_with (first | ((with_reducible refine gate_dst (N := 1) rfl ?_); refine box_event ?hg (N := 1) ?hd (cs := #[.int .i64 a0_0, .int .i64 a0_1, .int .i64 a0_2, .slice A0_3 l0_3.length c0_3, .string a0_4, .int .i64 a0_5]) (t := 26) ?hr ?_; (case hd => rfl); (case hg => rfl); (case hr => (go_simp; done)); intro gb358 hg w47 hbox hb; have BK358 := Aside0.mk (hbox); have GW358 := Aside0.mk ((by rw [hg]; exact (below_size (HB.out)) : w.heap.size ≤ gb358)); have GE358 := Aside0.mk ((by rw [hg]; exact (below_size (HB.out)) : w.heap.size ≤ gb358)); replace HB := Aside0.mk (below_step (HB.out) hb); clear hb hbox hg; obtain ⟨hcz48_0, hcz48_1, hcz48_2, hcz48_3, hcz48_4, hcz48_5⟩ := bc6 BK358.out; obtain ⟨hfz48_0, hfz48_1, hfz48_2, hfz48_3, hfz48_4, hfz48_5⟩ := bf6 BK358.out) | ((with_reducible refine gate_callee (f := 13) rfl ?_); refine goesL_ (some 9) rfl rfl Tryd.func13 (by kernel_rfl) rfl #[.agg #[.int .i64 a0_0, .int .i64 a0_1, .int .i64 a0_2, .slice A0_3 l0_3.length c0_3, .string a0_4, .int .i64 a0_5]] rfl (by (try simp only [List.map_toArray, List.map_cons, List.map_nil]); rfl) ?_; (with_reducible refine (ententeref13_Check.calls k a0_0 a0_1 a0_2 _ _ l0_3 a0_4 a0_5 t359 _ ?side1 ?side2 A2.out).mono ?_); (case side1 => exact (Kd.C_below HR0_3.out HB.out)); (case side2 => exact HC0_3.out); rintro e w49 ⟨rfl, hb⟩; refine ⟨_, rfl, ?_⟩; replace BK358 := Aside0.mk (blk_below BK358.out hb); replace HB := Aside0.mk (below_step (HB.out) hb); clear hb) | ((with_reducible refine gate_dst (N := 11) rfl ?_); refine Kd.R_lit Kd.string _ 9 ?hg (N := 11) ?hd (xs := ([(⟨#[]⟩ : ByteArray), (⟨#[111, 102, 102, 101, 114]⟩ : ByteArray), (⟨#[114, 101, 110, 101, 119]⟩ : ByteArray), (⟨#[99, 111, 109, 109, 105, 116]⟩ : ByteArray), (⟨#[117, 110, 100, 111]⟩ : ByteArray), (⟨#[104, 101, 108, 100]⟩ : ByteArray), (⟨#[103, 111, 110, 101]⟩ : ByteArray), (⟨#[107, 101, 112, 116]⟩ : ByteArray)] : List ByteArray)) (inner := [.string (⟨#[]⟩ : ByteArray), .string (⟨#[111, 102, 102, 101, 114]⟩ : ByteArray), .string (⟨#[114, 101, 110, 101, 119]⟩ : ByteArray), .string (⟨#[99, 111, 109, 109, 105, 116]⟩ : ByteArray), .string (⟨#[117, 110, 100, 111]⟩ : ByteArray), .string (⟨#[104, 101, 108, 100]⟩ : ByteArray), .string (⟨#[103, 111, 110, 101]⟩ : ByteArray), .string (⟨#[107, 101, 112, 116]⟩ : ByteArray)]) (ok := fun _ => True) (okp := fun _ => True) ?hr ?hp (fun _ hk => hk) trivial (Below.refl _ _) (Nat.le_refl _) (by simp) ?_; (case hd => rfl); (case hg => rfl); (case hr => (go_simp; done)); (case hp => exact (Reps.one (show Kd.M Kd.string _ _ _ (⟨#[]⟩ : ByteArray) [.string (⟨#[]⟩ : ByteArray)] from rfl) (Reps.one (show Kd.M Kd.string _ _ _ (⟨#[111, 102, 102, 101, 114]⟩ : ByteArray) [.string (⟨#[111, 102, 102, 101, 114]⟩ : ByteArray)] from rfl) (Reps.one (show Kd.M Kd.string _ _ _ (⟨#[114, 101, 110, 101, 119]⟩ : ByteArray) [.string (⟨#[114, 101, 110, 101, 119]⟩ : ByteArray)] from rfl) (Reps.one (show Kd.M Kd.string _ _ _ (⟨#[99, 111, 109, 109, 105, 116]⟩ : ByteArray) [.string (⟨#[99, 111, 109, 109, 105, 116]⟩ : ByteArray)] from rfl) (Reps.one (show Kd.M Kd.string _ _ _ (⟨#[117, 110, 100, 111]⟩ : ByteArray) [.string (⟨#[117, 110, 100, 111]⟩ : ByteArray)] from rfl) (Reps.one (show Kd.M Kd.string _ _ _ (⟨#[104, 101, 108, 100]⟩ : ByteArray) [.string (⟨#[104, 101, 108, 100]⟩ : ByteArray)] from rfl) (Reps.one (show Kd.M Kd.string _ _ _ (⟨#[103, 111, 110, 101]⟩ : ByteArray) [.string (⟨#[103, 111, 110, 101]⟩ : ByteArray)] from rfl) (Reps.one (show Kd.M Kd.string _ _ _ (⟨#[107, 101, 112, 116]⟩ : ByteArray) [.string (⟨#[107, 101, 112, 116]⟩ : ByteArray)] from rfl) (Reps.none _ _)))))))))); intro v361 w50 ho51 hb hg_ hnew_; clear hg_ hnew_; (rw [← Ny360.out] at ho51); have HO362 := Aside0.mk (Kd.R_lower ho51 (below_size (HB.out))); replace BK358 := Aside0.mk (blk_below BK358.out hb); replace HB := Aside0.mk (below_step (HB.out) hb); clear hb ho51; obtain ⟨hcz52_0, hcz52_1, hcz52_2, hcz52_3, hcz52_4, hcz52_5⟩ := bc6 BK358.out; obtain ⟨hfz52_0, hfz52_1, hfz52_2, hfz52_3, hfz52_4, hfz52_5⟩ := bf6 BK358.out) | ((with_reducible refine gate_callee (f := 25) rfl ?_); refine goesL_ (some 15) rfl rfl Tryd.func25 (by kernel_rfl) rfl #[.agg #[.int .i64 a0_1, .int .i64 a0_2, .slice A0_3 l0_3.length c0_3]] rfl (by (try simp only [List.map_toArray, List.map_cons, List.map_nil]); rfl) ?_; (with_reducible refine (ententeref03_Show.calls k a0_1 a0_2 _ _ l0_3 t363 t364 _ ?side1 ?side2 A4.out).mono ?_); (case side1 => exact (Kd.C_below HR0_3.out HB.out)); (case side2 => exact HC0_3.out); rintro e w53 ⟨rfl, hb⟩; refine ⟨_, rfl, ?_⟩; replace HO362 := Aside0.mk (Kd.R_below (by exact HO362.out) hb); replace BK358 := Aside0.mk (blk_below BK358.out hb); replace HB := Aside0.mk (below_step (HB.out) hb); clear hb; obtain ⟨hcz54_0, hcz54_1, hcz54_2, hcz54_3, hcz54_4, hcz54_5⟩ := bc6 BK358.out; obtain ⟨hfz54_0, hfz54_1, hfz54_2, hfz54_3, hfz54_4, hfz54_5⟩ := bf6 BK358.out; obtain ⟨Ao55, co55, eo55⟩ := Kd.R_slice HO362.out; subst eo55; have p365 : 0 ≤ (a0_0 : Int) := of_decide_eq_true (by (with_reducible assumption)); have q365 : a0_0 < (y360.length : Int) := of_decide_eq_true (by (with_reducible assumption)); obtain ⟨ad365, e365, hx365_0⟩ := Kd.at_string (Kd.R_reads' HO362.out).2.2 a0_0 p365 q365; cases e365; replace p365 := eq_true p365; replace q365 := eq_true q365))
        go_ret2
        exact ⟨by rfl, HB.out⟩
     ·rw [if_neg c8] at H
      exact absurd H (by simp)
    ·rw [if_neg c7] at H
     exact absurd H (by simp)
   ·rw [if_neg c6] at H
    exact absurd H (by simp)
  ·rw [if_neg c5] at H
   exact absurd H (by simp)
 ·rw [if_neg c3] at H
  have c3b0 : (t359 == 0) = false := beq_eq_false_iff_ne.mpr c3
  have c3b1 : (t359 != 0) = true := bne_iff_ne.mpr c3
  simp only [Option.some.injEq, Prod.mk.injEq] at H
  obtain ⟨rfl, rfl⟩ := H
  go_enter Tryd.func11, Tryd.ntmps11
  go_wp2_with (first | ((with_reducible refine gate_dst (N := 1) rfl ?_); refine box_event ?hg (N := 1) ?hd (cs := #[.int .i64 a0_0, .int .i64 a0_1, .int .i64 a0_2, .slice A0_3 l0_3.length c0_3, .string a0_4, .int .i64 a0_5]) (t := 26) ?hr ?_; (case hd => rfl); (case hg => rfl); (case hr => (go_simp; done)); intro gb358 hg w56 hbox hb; have BK358 := Aside0.mk (hbox); have GW358 := Aside0.mk ((by rw [hg]; exact (below_size (HB.out)) : w.heap.size ≤ gb358)); have GE358 := Aside0.mk ((by rw [hg]; exact (below_size (HB.out)) : w.heap.size ≤ gb358)); replace HB := Aside0.mk (below_step (HB.out) hb); clear hb hbox hg; obtain ⟨hcz57_0, hcz57_1, hcz57_2, hcz57_3, hcz57_4, hcz57_5⟩ := bc6 BK358.out; obtain ⟨hfz57_0, hfz57_1, hfz57_2, hfz57_3, hfz57_4, hfz57_5⟩ := bf6 BK358.out) | ((with_reducible refine gate_callee (f := 13) rfl ?_); refine goesL_ (some 9) rfl rfl Tryd.func13 (by kernel_rfl) rfl #[.agg #[.int .i64 a0_0, .int .i64 a0_1, .int .i64 a0_2, .slice A0_3 l0_3.length c0_3, .string a0_4, .int .i64 a0_5]] rfl (by (try simp only [List.map_toArray, List.map_cons, List.map_nil]); rfl) ?_; (with_reducible refine (ententeref13_Check.calls k a0_0 a0_1 a0_2 _ _ l0_3 a0_4 a0_5 t359 _ ?side1 ?side2 A2.out).mono ?_); (case side1 => exact (Kd.C_below HR0_3.out HB.out)); (case side2 => exact HC0_3.out); rintro e w58 ⟨rfl, hb⟩; refine ⟨_, rfl, ?_⟩; replace BK358 := Aside0.mk (blk_below BK358.out hb); replace HB := Aside0.mk (below_step (HB.out) hb); clear hb))
  go_ret2
  exact ⟨by rfl, HB.out⟩

end Go.Proofs.YtlaeihdldofkcaaDoor.PN

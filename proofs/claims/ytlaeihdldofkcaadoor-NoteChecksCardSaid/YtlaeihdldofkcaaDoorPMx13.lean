/- The machine side of this seat's laws: plain functions, and proofs that the calls do what they say; written by a program of this session over the translation; no conditions beyond those typed. -/
import Derived.Test.YtlaeihdldofkcaaDoorPMx0
namespace Go.Proofs.YtlaeihdldofkcaaDoor.PN
open Go.RowKit Go.Proofs.YtlaeihdldofkcaaDoorW.PrintWords Go.Proofs.YtlaeihdldofkcaaDoorW.PrintLast Go.Proofs.YtlaeihdldofkcaaDoorW.PrintMore
attribute [local go_sem] max2_int min2_int max_two min_two max_three min_three max_four min_four   -- for this text's walks alone
set_option linter.unusedVariables false
set_option linter.unusedSimpArgs false

/-! ### ententeref03_Check: function 28 -/
mutual
def ententeref03_Check.j0 : Nat → Bool → Int → Int → List (S50) → Option (Int)
 | 0, _, _, _, _ => none
 | k + 1, x29, x326000, x326001, x326002 => if x29 = true then (some 30) else (ententeref03_Check.l0 k 0 x326000 x326001 x326002)
def ententeref03_Check.l0 : Nat → Int → Int → Int → List (S50) → Option (Int)
 | 0, _, _, _, _ => none
 | k + 1, x3, x326000, x326001, x326002 => if x3 < (x326002.length : Int) then (if 0 ≤ x3 then (if ((rd_T50 x326002 x3).f0) < 0 then (ententeref03_Check.j2 k x3 true x326000 x326001 x326002 ((rd_T50 x326002 x3).f0) ((rd_T50 x326002 x3).f1)) else (if ((rd_T50 x326002 x3).f0) > 7 then (ententeref03_Check.j2 k x3 true x326000 x326001 x326002 ((rd_T50 x326002 x3).f0) ((rd_T50 x326002 x3).f1)) else (if ((rd_T50 x326002 x3).f1) < 0 then (ententeref03_Check.j2 k x3 true x326000 x326001 x326002 ((rd_T50 x326002 x3).f0) ((rd_T50 x326002 x3).f1)) else (if ((rd_T50 x326002 x3).f1) > 15 then (ententeref03_Check.j2 k x3 true x326000 x326001 x326002 ((rd_T50 x326002 x3).f0) ((rd_T50 x326002 x3).f1)) else (ententeref03_Check.j2 k x3 (((rd_T50 x326002 x3).f1) == x326000) x326000 x326001 x326002 ((rd_T50 x326002 x3).f0) ((rd_T50 x326002 x3).f1)))))) else (none)) else (some 0)
def ententeref03_Check.j2 : Nat → Int → Bool → Int → Int → List (S50) → Int → Int → Option (Int)
 | 0, _, _, _, _, _, _, _ => none
 | k + 1, x3, x66, x326000, x326001, x326002, x328000, x328001 => if x66 = true then (some 30) else (ententeref03_Check.l1 k x3 0 x326000 x326001 x326002 x328000 x328001)
def ententeref03_Check.l1 : Nat → Int → Int → Int → Int → List (S50) → Int → Int → Option (Int)
 | 0, _, _, _, _, _, _, _ => none
 | k + 1, x3, x5, x326000, x326001, x326002, x328000, x328001 => if x5 < x3 then (if 0 ≤ x5 then (if x5 < (x326002.length : Int) then (if ((rd_T50 x326002 x5).f1) = x328001 then (some 30) else (ententeref03_Check.l1 k x3 (wrap64 (x5 + 1)) x326000 x326001 x326002 x328000 x328001)) else (none)) else (none)) else (ententeref03_Check.l0 k (wrap64 (x3 + 1)) x326000 x326001 x326002)
end
def ententeref03_Check.f (k : Nat) (a0_0 : Int) (a0_1 : Int) (l0_2 : List (S50)) : Option (Int) := if a0_1 < 1 then (ententeref03_Check.j0 k true a0_0 a0_1 l0_2) else (if a0_1 > 999999 then (ententeref03_Check.j0 k true a0_0 a0_1 l0_2) else (if (l0_2.length : Int) > 4 then (ententeref03_Check.j0 k true a0_0 a0_1 l0_2) else (if a0_0 < 0 then (ententeref03_Check.j0 k true a0_0 a0_1 l0_2) else (ententeref03_Check.j0 k (decide (a0_0 > 15)) a0_0 a0_1 l0_2))))
theorem ententeref03_Check.mono_l : ∀ k, (∀ y0 y1 y2 y3, LeO (ententeref03_Check.j0 k y0 y1 y2 y3) (ententeref03_Check.j0 (k + 1) y0 y1 y2 y3)) ∧ (∀ y0 y1 y2 y3, LeO (ententeref03_Check.l0 k y0 y1 y2 y3) (ententeref03_Check.l0 (k + 1) y0 y1 y2 y3)) ∧ (∀ y0 y1 y2 y3 y4 y5 y6, LeO (ententeref03_Check.j2 k y0 y1 y2 y3 y4 y5 y6) (ententeref03_Check.j2 (k + 1) y0 y1 y2 y3 y4 y5 y6)) ∧ (∀ y0 y1 y2 y3 y4 y5 y6, LeO (ententeref03_Check.l1 k y0 y1 y2 y3 y4 y5 y6) (ententeref03_Check.l1 (k + 1) y0 y1 y2 y3 y4 y5 y6))
 | 0 => ⟨fun _ _ _ _ r h => by simp [ententeref03_Check.j0] at h, fun _ _ _ _ r h => by simp [ententeref03_Check.l0] at h, fun _ _ _ _ _ _ _ r h => by simp [ententeref03_Check.j2] at h, fun _ _ _ _ _ _ _ r h => by simp [ententeref03_Check.l1] at h⟩
 | k + 1 => by
  obtain ⟨ih0, ih1, ih2, ih3⟩ := ententeref03_Check.mono_l k
  refine ⟨?_, ?_, ?_, ?_⟩
  ·intro y0 y1 y2 y3
   unfold ententeref03_Check.j0
   repeat' first
   | (with_reducible exact ih0 _ _ _ _)
   | (with_reducible exact ih1 _ _ _ _)
   | (with_reducible exact ih2 _ _ _ _ _ _ _)
   | (with_reducible exact ih3 _ _ _ _ _ _ _)
   | (with_reducible exact LeO.refl _)
   | (with_reducible exact LeO.none _)
   | (with_reducible refine LeO.ite ?_ ?_)
   | (with_reducible refine LeO.bind ?_ (fun _ => ?_))
   | exact ih0 _ _ _ _
   | exact ih1 _ _ _ _
   | exact ih2 _ _ _ _ _ _ _
   | exact ih3 _ _ _ _ _ _ _
   | exact LeO.none _
   | refine LeO.ite ?_ ?_
   | refine LeO.bind ?_ (fun _ => ?_)
  ·intro y0 y1 y2 y3
   unfold ententeref03_Check.l0
   repeat' first
   | (with_reducible exact ih0 _ _ _ _)
   | (with_reducible exact ih1 _ _ _ _)
   | (with_reducible exact ih2 _ _ _ _ _ _ _)
   | (with_reducible exact ih3 _ _ _ _ _ _ _)
   | (with_reducible exact LeO.refl _)
   | (with_reducible exact LeO.none _)
   | (with_reducible refine LeO.ite ?_ ?_)
   | (with_reducible refine LeO.bind ?_ (fun _ => ?_))
   | exact ih0 _ _ _ _
   | exact ih1 _ _ _ _
   | exact ih2 _ _ _ _ _ _ _
   | exact ih3 _ _ _ _ _ _ _
   | exact LeO.none _
   | refine LeO.ite ?_ ?_
   | refine LeO.bind ?_ (fun _ => ?_)
  ·intro y0 y1 y2 y3 y4 y5 y6
   unfold ententeref03_Check.j2
   repeat' first
   | (with_reducible exact ih0 _ _ _ _)
   | (with_reducible exact ih1 _ _ _ _)
   | (with_reducible exact ih2 _ _ _ _ _ _ _)
   | (with_reducible exact ih3 _ _ _ _ _ _ _)
   | (with_reducible exact LeO.refl _)
   | (with_reducible exact LeO.none _)
   | (with_reducible refine LeO.ite ?_ ?_)
   | (with_reducible refine LeO.bind ?_ (fun _ => ?_))
   | exact ih0 _ _ _ _
   | exact ih1 _ _ _ _
   | exact ih2 _ _ _ _ _ _ _
   | exact ih3 _ _ _ _ _ _ _
   | exact LeO.none _
   | refine LeO.ite ?_ ?_
   | refine LeO.bind ?_ (fun _ => ?_)
  ·intro y0 y1 y2 y3 y4 y5 y6
   unfold ententeref03_Check.l1
   repeat' first
   | (with_reducible exact ih0 _ _ _ _)
   | (with_reducible exact ih1 _ _ _ _)
   | (with_reducible exact ih2 _ _ _ _ _ _ _)
   | (with_reducible exact ih3 _ _ _ _ _ _ _)
   | (with_reducible exact LeO.refl _)
   | (with_reducible exact LeO.none _)
   | (with_reducible refine LeO.ite ?_ ?_)
   | (with_reducible refine LeO.bind ?_ (fun _ => ?_))
   | exact ih0 _ _ _ _
   | exact ih1 _ _ _ _
   | exact ih2 _ _ _ _ _ _ _
   | exact ih3 _ _ _ _ _ _ _
   | exact LeO.none _
   | refine LeO.ite ?_ ?_
   | refine LeO.bind ?_ (fun _ => ?_)
theorem ententeref03_Check.mono : ∀ a0 a1 a2 k, LeO (ententeref03_Check.f k a0 a1 a2) (ententeref03_Check.f (k + 1) a0 a1 a2) := by
 intro a0 a1 a2 k
 obtain ⟨ih0, ih1, ih2, ih3⟩ := ententeref03_Check.mono_l k
 unfold ententeref03_Check.f
 repeat' first
   | (with_reducible exact ih0 _ _ _ _)
   | (with_reducible exact ih1 _ _ _ _)
   | (with_reducible exact ih2 _ _ _ _ _ _ _)
   | (with_reducible exact ih3 _ _ _ _ _ _ _)
   | (with_reducible exact LeO.refl _)
   | (with_reducible exact LeO.none _)
   | (with_reducible refine LeO.ite ?_ ?_)
   | (with_reducible refine LeO.bind ?_ (fun _ => ?_))
   | exact ih0 _ _ _ _
   | exact ih1 _ _ _ _
   | exact ih2 _ _ _ _ _ _ _
   | exact ih3 _ _ _ _ _ _ _
   | exact LeO.none _
   | refine LeO.ite ?_ ?_
   | refine LeO.bind ?_ (fun _ => ?_)
set_option maxHeartbeats 8000000 in
set_option maxRecDepth 100000 in
theorem ententeref03_Check.calls (k : Nat) (a0_0 : Int) (a0_1 : Int) (A0_2 : Option Addr) (c0_2 : Nat) (l0_2 : List (S50)) (r : Int) (w : World) (hr0_2 : Kd.C k50 w A0_2 l0_2.length l0_2) (hc0_2 : l0_2.length ≤ c0_2) (h : ententeref03_Check.f k a0_0 a0_1 l0_2 = some r) :
  Calls Tryd.prog 28 #[.agg #[.int .i64 a0_0, .int .i64 a0_1, .slice A0_2 l0_2.length c0_2]] w fun e w' => e = .returned (.int .i64 r) ∧ Below w.heap.size w w' := by
 have hu24 := Tryd.underlying24
 have hu50 := Tryd.underlying50
 have HR0_2 := Aside0.mk hr0_2
 have HC0_2 := Aside0.mk hc0_2
 clear hr0_2 hc0_2
 have HB := Aside0.mk (Below.refl w.heap.size w)
 have H : (if a0_1 < 1 then (ententeref03_Check.j0 k true a0_0 a0_1 l0_2) else (if a0_1 > 999999 then (ententeref03_Check.j0 k true a0_0 a0_1 l0_2) else (if (l0_2.length : Int) > 4 then (ententeref03_Check.j0 k true a0_0 a0_1 l0_2) else (if a0_0 < 0 then (ententeref03_Check.j0 k true a0_0 a0_1 l0_2) else (ententeref03_Check.j0 k (decide (a0_0 > 15)) a0_0 a0_1 l0_2))))) = some r := h
 clear h
 have HC2 := Aside0.mk H
 clear H
 go_enter Tryd.func28, Tryd.ntmps28
 go_upto_region 1 with (first | ((with_reducible refine gate_dst (N := 1) rfl ?_); (try (refine gate_guard (by rfl) ?_; dsimp only)); refine box_event ?hg (N := 1) ?hd (cs := #[.int .i64 a0_0, .int .i64 a0_1, .slice A0_2 l0_2.length c0_2]) (t := 24) ?hr ?_; (case hd => rfl); (case hg => rfl); (case hr => (go_simp; done)); intro gb325 hg w3 hbox hb; have BK325 := Aside0.mk (hbox); have GW325 := Aside0.mk ((by rw [hg]; exact (below_size (HB.out)) : w.heap.size ≤ gb325)); have GE325 := Aside0.mk ((by rw [hg]; exact (below_size (HB.out)) : w.heap.size ≤ gb325)); replace HB := Aside0.mk (below_step (HB.out) hb); clear hb hbox hg))
 repeat (go_quiet (fail); go_upto_region 1 with (fail))
 (try simp only [Act.put, List.setIfInBounds_toArray, List.set_cons_zero, List.set_cons_succ])
 go_cut [29] (fun v29 wc => ∃ (kq : Nat) (x29_1 : Bool), v29 = .bool x29_1 ∧ Aside0 (ententeref03_Check.j0 kq x29_1 a0_0 a0_1 l0_2 = some r) ∧ Aside0 (kq ≤ k) ∧ Aside0 (wc.heap[gb325]? = some (.cells #[.int .i64 a0_0, .int .i64 a0_1, (.slice A0_2 l0_2.length c0_2)] 24 (0, 0))) ∧ Aside0 (Below w.heap.size w wc))
 case first =>
  have H := HC2.out
  clear HC2
  by_cases c4 : a0_1 < 1
  ·rw [if_pos c4] at H
   have c4b0 : decide (a0_1 < 1) = true := decide_eq_true c4
   clear c4
   (skip)
   have H' := Aside0.mk H
   clear H
   obtain ⟨hcz5_0, hcz5_1, hcz5_2⟩ := bc3 BK325.out
   obtain ⟨hfz5_0, hfz5_1, hfz5_2⟩ := bf3 BK325.out
   go_wp2
   repeat (go_quiet (fail); try go_wp2)
   go_meet
   case rel => exact ⟨_, (true), (by rfl), H', ⟨by omega⟩, ⟨by exact BK325.out⟩, ⟨HB.out⟩⟩
  ·rw [if_neg c4] at H
   have c4b0 : decide (a0_1 < 1) = false := decide_eq_false c4
   clear c4
   (skip)
   by_cases c6 : a0_1 > 999999
   ·rw [if_pos c6] at H
    have c6b0 : decide (999999 < a0_1) = true := decide_eq_true c6
    clear c6
    have H' := Aside0.mk H
    clear H
    obtain ⟨hcz7_0, hcz7_1, hcz7_2⟩ := bc3 BK325.out
    obtain ⟨hfz7_0, hfz7_1, hfz7_2⟩ := bf3 BK325.out
    go_wp2
    repeat (go_quiet (fail); try go_wp2)
    go_meet
    case rel => exact ⟨_, (true), (by rfl), H', ⟨by omega⟩, ⟨by exact BK325.out⟩, ⟨HB.out⟩⟩
   ·rw [if_neg c6] at H
    have c6b0 : decide (999999 < a0_1) = false := decide_eq_false c6
    clear c6
    by_cases c8 : (l0_2.length : Int) > 4
    ·rw [if_pos c8] at H
     have c8b0 : decide (4 < (l0_2.length : Int)) = true := decide_eq_true c8
     have c8b1 : decide (4 < l0_2.length) = true := decide_eq_true (by omega)
     clear c8
     have H' := Aside0.mk H
     clear H
     obtain ⟨hcz9_0, hcz9_1, hcz9_2⟩ := bc3 BK325.out
     obtain ⟨hfz9_0, hfz9_1, hfz9_2⟩ := bf3 BK325.out
     go_wp2
     repeat (go_quiet (fail); try go_wp2)
     go_meet
     case rel => exact ⟨_, (true), (by rfl), H', ⟨by omega⟩, ⟨by exact BK325.out⟩, ⟨HB.out⟩⟩
    ·rw [if_neg c8] at H
     have c8b0 : decide (4 < (l0_2.length : Int)) = false := decide_eq_false c8
     have c8b1 : decide (4 < l0_2.length) = false := decide_eq_false (by omega)
     clear c8
     by_cases c10 : a0_0 < 0
     ·rw [if_pos c10] at H
      have c10b0 : decide (a0_0 < 0) = true := decide_eq_true c10
      clear c10
      have H' := Aside0.mk H
      clear H
      obtain ⟨hcz11_0, hcz11_1, hcz11_2⟩ := bc3 BK325.out
      obtain ⟨hfz11_0, hfz11_1, hfz11_2⟩ := bf3 BK325.out
      go_wp2
      repeat (go_quiet (fail); try go_wp2)
      go_meet
      case rel => exact ⟨_, (true), (by rfl), H', ⟨by omega⟩, ⟨by exact BK325.out⟩, ⟨HB.out⟩⟩
     ·rw [if_neg c10] at H
      have c10b0 : decide (a0_0 < 0) = false := decide_eq_false c10
      clear c10
      have H' := Aside0.mk H
      clear H
      obtain ⟨hcz12_0, hcz12_1, hcz12_2⟩ := bc3 BK325.out
      obtain ⟨hfz12_0, hfz12_1, hfz12_2⟩ := bf3 BK325.out
      go_wp2
      repeat (go_quiet (fail); try go_wp2)
      go_meet
      case rel => exact ⟨_, (decide (a0_0 > 15)), (by rfl), H', ⟨by omega⟩, ⟨by exact BK325.out⟩, ⟨HB.out⟩⟩
 case rest =>
  clear HC2
  obtain ⟨kq, x29_1, rfl, HA, HJ1, BK325, HB⟩ := hcut
  cases kq with
  | zero => exact absurd HA.out (by simp [ententeref03_Check.j0])
  | succ kj1 =>
   have H := HA.out
   clear HA
   simp only [ententeref03_Check.j0] at H
   by_cases c13 : x29_1 = true
   ·subst c13
    have H1 : (some 30) = some r := by rw [if_pos rfl] at H; exact H
    clear H
    have H := H1
    clear H1
    obtain rfl := Option.some.inj H
    go_wp2
    repeat (go_quiet (fail); try go_wp2)
    go_ret
    exact ⟨by rfl, HB.out⟩
   ·replace c13 := Bool.eq_false_iff.mpr c13
    subst c13
    have H1 : (ententeref03_Check.l0 kj1 0 a0_0 a0_1 l0_2) = some r := by rw [if_neg (show ¬ (false = true) by decide)] at H; exact H
    clear H
    have H := H1
    clear H1
    have H' := Aside0.mk H
    clear H
    go_wp2
    repeat (go_quiet (fail); try go_wp2)
    go_loopg [3] kj1 (fun kq v3 w' => ∃ (x3_2 : Int), v3 = .int .i64 x3_2 ∧ Aside0 (ententeref03_Check.l0 kq x3_2 a0_0 a0_1 l0_2 = some r) ∧ Aside0 (kq ≤ kj1) ∧ Aside0 (w'.heap[gb325]? = some (.cells #[.int .i64 a0_0, .int .i64 a0_1, (.slice A0_2 l0_2.length c0_2)] 24 (0, 0))) ∧ Aside0 (Below w.heap.size w w'))
    case atStart => exact ⟨(0), (by rfl), H', ⟨Nat.le_refl _⟩, ⟨by exact BK325.out⟩, ⟨HB.out⟩⟩
    case round =>
     clear H'
     obtain ⟨x3_2, rfl, HA, HK2, BK325, HB⟩ := hrel
     cases gk with
     | zero => exact absurd HA.out (by simp [ententeref03_Check.l0])
     | succ k2 =>
      have H := HA.out
      clear HA
      simp only [ententeref03_Check.l0] at H
      by_cases c14 : x3_2 < (l0_2.length : Int)
      ·rw [if_pos c14] at H
       have c14b0 : decide (x3_2 < (l0_2.length : Int)) = true := decide_eq_true c14
       clear c14
       by_cases c15 : 0 ≤ x3_2
       ·rw [if_pos c15] at H
        have c15b0 : decide (0 ≤ x3_2) = true := decide_eq_true c15
        clear c15
        have HC16 := Aside0.mk H
        clear H
        obtain ⟨hcz17_0, hcz17_1, hcz17_2⟩ := bc3 BK325.out
        obtain ⟨hfz17_0, hfz17_1, hfz17_2⟩ := bf3 BK325.out
        have p326 : 0 ≤ (x3_2 : Int) := of_decide_eq_true (by (with_reducible assumption))
        have q326 : x3_2 < (l0_2.length : Int) := of_decide_eq_true (by (with_reducible assumption))
        obtain ⟨ad326, e326, hx326_0, hx326_1⟩ := at_T50 HR0_2.out x3_2 p326 q326
        cases e326
        try replace hx326_0 := (HB.out.cell (World.block_lt_of_cell? w _ hx326_0)).trans hx326_0
        try replace hx326_1 := (HB.out.cell (World.block_lt_of_cell? w _ hx326_1)).trans hx326_1
        replace p326 := eq_true p326
        replace q326 := eq_true q326
        go_upto_region 7 with (first | ((with_reducible refine gate_dst (N := 4) rfl ?_); (try (refine gate_guard (by rfl) ?_; dsimp only)); refine box_event ?hg (N := 4) ?hd (cs := #[.int .i64 0, .int .i64 0]) (t := 50) ?hr ?_; (case hd => rfl); (case hg => rfl); (case hr => (go_simp; done)); intro gb327 hg w18 hbox hb; have BK327 := Aside0.mk (hbox); have GW327 := Aside0.mk ((by rw [hg]; exact (below_size (HB.out)) : w.heap.size ≤ gb327)); have GE327 := Aside0.mk ((by rw [hg]; exact (below_size (HB.out)) : w.heap.size ≤ gb327)); replace HB := Aside0.mk (below_step (HB.out) hb); have NB325_327 := Aside0.mk ((by rw [hg]; exact Nat.ne_of_lt (blk_lt BK325.out) : gb325 ≠ gb327)); have NB327_325 := Aside0.mk ((by rw [hg]; exact Nat.ne_of_gt (blk_lt BK325.out) : gb327 ≠ gb325)); replace BK325 := Aside0.mk (blk_below BK325.out hb); clear hb hbox hg; have hnb19 := NB327_325.out; have hnc19 := NB325_327.out; obtain ⟨hcz20_0, hcz20_1⟩ := bc2 BK327.out; obtain ⟨hfz20_0, hfz20_1⟩ := bf2 BK327.out))
        repeat (go_quiet (fail); go_upto_region 7 with (fail))
        (try simp only [Act.put, List.setIfInBounds_toArray, List.set_cons_zero, List.set_cons_succ])
        go_cut [66] (fun v66 wc => ∃ (kq : Nat) (x66_15 : Bool), v66 = .bool x66_15 ∧ Aside0 (ententeref03_Check.j2 kq x3_2 x66_15 a0_0 a0_1 l0_2 ((rd_T50 l0_2 x3_2).f0) ((rd_T50 l0_2 x3_2).f1) = some r) ∧ Aside0 (kq ≤ k2) ∧ Aside0 (wc.heap[gb325]? = some (.cells #[.int .i64 a0_0, .int .i64 a0_1, (.slice (some ad326) l0_2.length c0_2)] 24 (0, 0))) ∧ Aside0 (wc.heap[gb327]? = some (.cells #[.int .i64 ((rd_T50 l0_2 x3_2).f0), .int .i64 ((rd_T50 l0_2 x3_2).f1)] 50 (0, 0))) ∧ Aside0 (Below w.heap.size w wc))
        case first =>
         have H := HC16.out
         clear HC16
         by_cases c21 : ((rd_T50 l0_2 x3_2).f0) < 0
         ·rw [if_pos c21] at H
          have c21b0 : decide (((rd_T50 l0_2 x3_2).f0) < 0) = true := decide_eq_true c21
          clear c21
          (skip)
          have H' := Aside0.mk H
          clear H
          have hnb22 := NB327_325.out
          have hnc22 := NB325_327.out
          obtain ⟨hcz23_0, hcz23_1⟩ := bc2 BK327.out
          obtain ⟨hfz23_0, hfz23_1⟩ := bf2 BK327.out
          go_wp2
          repeat (go_quiet (fail); try go_wp2)
          go_meet
          case rel => exact ⟨_, (true), (by rfl), H', ⟨by have := HJ1.out; have := HK2.out; omega⟩, ⟨by refine blk_far ?_ NB325_327.out _; refine blk_far ?_ NB325_327.out _; exact BK325.out⟩, ⟨by refine blk_put (cs := #[.int .i64 ((rd_T50 l0_2 x3_2).f0), .int .i64 0]) ?_ 1 _ rfl; refine blk_put (cs := #[.int .i64 0, .int .i64 0]) ?_ 0 _ rfl; exact BK327.out⟩, ⟨below_set (below_set HB.out GE327.out) GE327.out⟩⟩
         ·rw [if_neg c21] at H
          have c21b0 : decide (((rd_T50 l0_2 x3_2).f0) < 0) = false := decide_eq_false c21
          clear c21
          (skip)
          by_cases c24 : ((rd_T50 l0_2 x3_2).f0) > 7
          ·rw [if_pos c24] at H
           have c24b0 : decide (7 < ((rd_T50 l0_2 x3_2).f0)) = true := decide_eq_true c24
           clear c24
           have H' := Aside0.mk H
           clear H
           have hnb25 := NB327_325.out
           have hnc25 := NB325_327.out
           obtain ⟨hcz26_0, hcz26_1⟩ := bc2 BK327.out
           obtain ⟨hfz26_0, hfz26_1⟩ := bf2 BK327.out
           go_wp2
           repeat (go_quiet (fail); try go_wp2)
           go_meet
           case rel => exact ⟨_, (true), (by rfl), H', ⟨by have := HJ1.out; have := HK2.out; omega⟩, ⟨by refine blk_far ?_ NB325_327.out _; refine blk_far ?_ NB325_327.out _; exact BK325.out⟩, ⟨by refine blk_put (cs := #[.int .i64 ((rd_T50 l0_2 x3_2).f0), .int .i64 0]) ?_ 1 _ rfl; refine blk_put (cs := #[.int .i64 0, .int .i64 0]) ?_ 0 _ rfl; exact BK327.out⟩, ⟨below_set (below_set HB.out GE327.out) GE327.out⟩⟩
          ·rw [if_neg c24] at H
           have c24b0 : decide (7 < ((rd_T50 l0_2 x3_2).f0)) = false := decide_eq_false c24
           clear c24
           by_cases c27 : ((rd_T50 l0_2 x3_2).f1) < 0
           ·rw [if_pos c27] at H
            have c27b0 : decide (((rd_T50 l0_2 x3_2).f1) < 0) = true := decide_eq_true c27
            clear c27
            have H' := Aside0.mk H
            clear H
            have hnb28 := NB327_325.out
            have hnc28 := NB325_327.out
            obtain ⟨hcz29_0, hcz29_1⟩ := bc2 BK327.out
            obtain ⟨hfz29_0, hfz29_1⟩ := bf2 BK327.out
            go_wp2
            repeat (go_quiet (fail); try go_wp2)
            go_meet
            case rel => exact ⟨_, (true), (by rfl), H', ⟨by have := HJ1.out; have := HK2.out; omega⟩, ⟨by refine blk_far ?_ NB325_327.out _; refine blk_far ?_ NB325_327.out _; exact BK325.out⟩, ⟨by refine blk_put (cs := #[.int .i64 ((rd_T50 l0_2 x3_2).f0), .int .i64 0]) ?_ 1 _ rfl; refine blk_put (cs := #[.int .i64 0, .int .i64 0]) ?_ 0 _ rfl; exact BK327.out⟩, ⟨below_set (below_set HB.out GE327.out) GE327.out⟩⟩
           ·rw [if_neg c27] at H
            have c27b0 : decide (((rd_T50 l0_2 x3_2).f1) < 0) = false := decide_eq_false c27
            clear c27
            by_cases c30 : ((rd_T50 l0_2 x3_2).f1) > 15
            ·rw [if_pos c30] at H
             have c30b0 : decide (15 < ((rd_T50 l0_2 x3_2).f1)) = true := decide_eq_true c30
             clear c30
             have H' := Aside0.mk H
             clear H
             have hnb31 := NB327_325.out
             have hnc31 := NB325_327.out
             obtain ⟨hcz32_0, hcz32_1⟩ := bc2 BK327.out
             obtain ⟨hfz32_0, hfz32_1⟩ := bf2 BK327.out
             go_wp2
             repeat (go_quiet (fail); try go_wp2)
             go_meet
             case rel => exact ⟨_, (true), (by rfl), H', ⟨by have := HJ1.out; have := HK2.out; omega⟩, ⟨by refine blk_far ?_ NB325_327.out _; refine blk_far ?_ NB325_327.out _; exact BK325.out⟩, ⟨by refine blk_put (cs := #[.int .i64 ((rd_T50 l0_2 x3_2).f0), .int .i64 0]) ?_ 1 _ rfl; refine blk_put (cs := #[.int .i64 0, .int .i64 0]) ?_ 0 _ rfl; exact BK327.out⟩, ⟨below_set (below_set HB.out GE327.out) GE327.out⟩⟩
            ·rw [if_neg c30] at H
             have c30b0 : decide (15 < ((rd_T50 l0_2 x3_2).f1)) = false := decide_eq_false c30
             clear c30
             have H' := Aside0.mk H
             clear H
             have hnb33 := NB327_325.out
             have hnc33 := NB325_327.out
             obtain ⟨hcz34_0, hcz34_1⟩ := bc2 BK327.out
             obtain ⟨hfz34_0, hfz34_1⟩ := bf2 BK327.out
             obtain ⟨hcz35_0, hcz35_1, hcz35_2⟩ := bc3 BK325.out
             obtain ⟨hfz35_0, hfz35_1, hfz35_2⟩ := bf3 BK325.out
             go_wp2
             repeat (go_quiet (fail); try go_wp2)
             go_meet
             case rel => exact ⟨_, ((((rd_T50 l0_2 x3_2).f1) == a0_0)), (by rfl), H', ⟨by have := HJ1.out; have := HK2.out; omega⟩, ⟨by refine blk_far ?_ NB325_327.out _; refine blk_far ?_ NB325_327.out _; exact BK325.out⟩, ⟨by refine blk_put (cs := #[.int .i64 ((rd_T50 l0_2 x3_2).f0), .int .i64 0]) ?_ 1 _ rfl; refine blk_put (cs := #[.int .i64 0, .int .i64 0]) ?_ 0 _ rfl; exact BK327.out⟩, ⟨below_set (below_set HB.out GE327.out) GE327.out⟩⟩
        case rest =>
         clear HC16 c14b0 c15b0 hcz17_0 hcz17_1 hcz17_2 hcz20_0 hcz20_1 hfz17_0 hfz17_1 hfz17_2 hfz20_0 hfz20_1 hx326_0 hx326_1 p326 q326
         obtain ⟨kq, x66_15, rfl, HA, HJ15, BK325, BK327, HB⟩ := hcut
         cases kq with
         | zero => exact absurd HA.out (by simp [ententeref03_Check.j2])
         | succ kj15 =>
          have H := HA.out
          clear HA
          simp only [ententeref03_Check.j2] at H
          by_cases c36 : x66_15 = true
          ·subst c36
           have H1 : (some 30) = some r := by rw [if_pos rfl] at H; exact H
           clear H
           have H := H1
           clear H1
           obtain rfl := Option.some.inj H
           go_wp2
           repeat (go_quiet (fail); try go_wp2)
           go_ret
           exact ⟨by rfl, HB.out⟩
          ·replace c36 := Bool.eq_false_iff.mpr c36
           subst c36
           have H1 : (ententeref03_Check.l1 kj15 x3_2 0 a0_0 a0_1 l0_2 ((rd_T50 l0_2 x3_2).f0) ((rd_T50 l0_2 x3_2).f1)) = some r := by rw [if_neg (show ¬ (false = true) by decide)] at H; exact H
           clear H
           have H := H1
           clear H1
           have H' := Aside0.mk H
           clear H
           go_wp2
           repeat (go_quiet (fail); try go_wp2)
           go_loopg [5] kj15 (fun kq v5 w' => ∃ (x5_4 : Int), v5 = .int .i64 x5_4 ∧ Aside0 (ententeref03_Check.l1 kq x3_2 x5_4 a0_0 a0_1 l0_2 ((rd_T50 l0_2 x3_2).f0) ((rd_T50 l0_2 x3_2).f1) = some r) ∧ Aside0 (kq ≤ kj15) ∧ Aside0 (w'.heap[gb325]? = some (.cells #[.int .i64 a0_0, .int .i64 a0_1, (.slice (some ad326) l0_2.length c0_2)] 24 (0, 0))) ∧ Aside0 (w'.heap[gb327]? = some (.cells #[.int .i64 ((rd_T50 l0_2 x3_2).f0), .int .i64 ((rd_T50 l0_2 x3_2).f1)] 50 (0, 0))) ∧ Aside0 (Below w.heap.size w w'))
           case atStart => exact ⟨(0), (by rfl), H', ⟨Nat.le_refl _⟩, ⟨by exact BK325.out⟩, ⟨by exact BK327.out⟩, ⟨HB.out⟩⟩
           case round =>
            clear H'
            obtain ⟨x5_4, rfl, HA, HK4, BK325, BK327, HB⟩ := hrel
            cases gk with
            | zero => exact absurd HA.out (by simp [ententeref03_Check.l1])
            | succ k4 =>
             have H := HA.out
             clear HA
             simp only [ententeref03_Check.l1] at H
             by_cases c37 : x5_4 < x3_2
             ·rw [if_pos c37] at H
              have c37b0 : decide (x5_4 < x3_2) = true := decide_eq_true c37
              clear c37
              by_cases c38 : 0 ≤ x5_4
              ·rw [if_pos c38] at H
               have c38b0 : decide (0 ≤ x5_4) = true := decide_eq_true c38
               clear c38
               by_cases c39 : x5_4 < (l0_2.length : Int)
               ·rw [if_pos c39] at H
                have c39b0 : decide (x5_4 < (l0_2.length : Int)) = true := decide_eq_true c39
                clear c39
                by_cases c40 : ((rd_T50 l0_2 x5_4).f1) = ((rd_T50 l0_2 x3_2).f1)
                ·rw [if_pos c40] at H
                 have c40b0 : (((rd_T50 l0_2 x5_4).f1) == ((rd_T50 l0_2 x3_2).f1)) = true := beq_iff_eq.mpr c40
                 have c40b1 : (((rd_T50 l0_2 x5_4).f1) != ((rd_T50 l0_2 x3_2).f1)) = false := bne_eq_false_iff_eq.mpr c40
                 clear c40
                 obtain rfl := Option.some.inj H
                 have hnb41 := NB325_327.out
                 have hnc41 := NB327_325.out
                 obtain ⟨hcz42_0, hcz42_1, hcz42_2⟩ := bc3 BK325.out
                 obtain ⟨hfz42_0, hfz42_1, hfz42_2⟩ := bf3 BK325.out
                 have p328 : 0 ≤ (x5_4 : Int) := of_decide_eq_true (by (with_reducible assumption))
                 have q328 : x5_4 < (l0_2.length : Int) := of_decide_eq_true (by (with_reducible assumption))
                 obtain ⟨ad328, e328, hx328_0, hx328_1⟩ := at_T50 HR0_2.out x5_4 p328 q328
                 obtain rfl : ad326 = ad328 := (by injection e328)
                 try replace hx328_0 := (HB.out.cell (World.block_lt_of_cell? w _ hx328_0)).trans hx328_0
                 try replace hx328_1 := (HB.out.cell (World.block_lt_of_cell? w _ hx328_1)).trans hx328_1
                 replace p328 := eq_true p328
                 replace q328 := eq_true q328
                 obtain ⟨hcz43_0, hcz43_1⟩ := bc2 BK327.out
                 obtain ⟨hfz43_0, hfz43_1⟩ := bf2 BK327.out
                 go_wp2
                 repeat (go_quiet (fail); try go_wp2)
                 go_ret
                 exact ⟨by rfl, pw_below_drewN HB.out _⟩
                ·rw [if_neg c40] at H
                 have c40b0 : (((rd_T50 l0_2 x5_4).f1) == ((rd_T50 l0_2 x3_2).f1)) = false := beq_eq_false_iff_ne.mpr c40
                 have c40b1 : (((rd_T50 l0_2 x5_4).f1) != ((rd_T50 l0_2 x3_2).f1)) = true := bne_iff_ne.mpr c40
                 have H' := Aside0.mk H
                 clear H
                 have hnb44 := NB325_327.out
                 have hnc44 := NB327_325.out
                 obtain ⟨hcz45_0, hcz45_1, hcz45_2⟩ := bc3 BK325.out
                 obtain ⟨hfz45_0, hfz45_1, hfz45_2⟩ := bf3 BK325.out
                 have p328 : 0 ≤ (x5_4 : Int) := of_decide_eq_true (by (with_reducible assumption))
                 have q328 : x5_4 < (l0_2.length : Int) := of_decide_eq_true (by (with_reducible assumption))
                 obtain ⟨ad328, e328, hx328_0, hx328_1⟩ := at_T50 HR0_2.out x5_4 p328 q328
                 obtain rfl : ad326 = ad328 := (by injection e328)
                 try replace hx328_0 := (HB.out.cell (World.block_lt_of_cell? w _ hx328_0)).trans hx328_0
                 try replace hx328_1 := (HB.out.cell (World.block_lt_of_cell? w _ hx328_1)).trans hx328_1
                 replace p328 := eq_true p328
                 replace q328 := eq_true q328
                 obtain ⟨hcz46_0, hcz46_1⟩ := bc2 BK327.out
                 obtain ⟨hfz46_0, hfz46_1⟩ := bf2 BK327.out
                 go_wp2
                 repeat (go_quiet (fail); try go_wp2)
                 go_roundg k4
                 case measure => have := HJ1.out; have := HK2.out; have := HJ15.out; have := HK4.out; omega
                 case rel => exact ⟨(wrap64 (x5_4 + 1)), (by rfl), H', ⟨by have := HJ1.out; have := HK2.out; have := HJ15.out; have := HK4.out; omega⟩, ⟨by refine blk_drewN ?_ _; exact BK325.out⟩, ⟨by refine blk_drewN ?_ _; exact BK327.out⟩, ⟨pw_below_drewN HB.out _⟩⟩
               ·rw [if_neg c39] at H
                exact absurd H (by simp)
              ·rw [if_neg c38] at H
               exact absurd H (by simp)
             ·rw [if_neg c37] at H
              have c37b0 : decide (x5_4 < x3_2) = false := decide_eq_false c37
              clear c37
              have H' := Aside0.mk H
              clear H
              go_wp2
              repeat (go_quiet (fail); try go_wp2)
              go_roundg k4
              case measure => have := HJ1.out; have := HK2.out; have := HJ15.out; have := HK4.out; omega
              case rel => exact ⟨(wrap64 (x3_2 + 1)), (by rfl), H', ⟨by have := HJ1.out; have := HK2.out; have := HJ15.out; have := HK4.out; omega⟩, ⟨by exact BK325.out⟩, ⟨HB.out⟩⟩
       ·rw [if_neg c15] at H
        exact absurd H (by simp)
      ·rw [if_neg c14] at H
       have c14b0 : decide (x3_2 < (l0_2.length : Int)) = false := decide_eq_false c14
       clear c14
       obtain rfl := Option.some.inj H
       obtain ⟨hcz47_0, hcz47_1, hcz47_2⟩ := bc3 BK325.out
       obtain ⟨hfz47_0, hfz47_1, hfz47_2⟩ := bf3 BK325.out
       go_wp2
       repeat (go_quiet (fail); try go_wp2)
       go_ret
       exact ⟨by rfl, HB.out⟩

/-! ### ententeref06_Name: function 29 -/
mutual
def ententeref06_Name.j0 : Nat → ByteArray → Bool → Option (Bool)
 | 0, _, _ => none
 | k + 1, x0, x13 => if x13 = true then (some false) else (ententeref06_Name.l0 k x0 0)
def ententeref06_Name.l0 : Nat → ByteArray → Int → Option (Bool)
 | 0, _, _ => none
 | k + 1, x0, x3 => if x3 < (x0.size : Int) then (if 0 ≤ x3 then (if (bt x0 x3) ≥ 97 then (if (bt x0 x3) ≥ 48 then (if (bt x0 x3) ≤ 122 then (if x3 = 0 then (if (bt x0 x3) ≤ 57 then (some false) else (ententeref06_Name.l0 k x0 (wrap64 (x3 + 1)))) else (ententeref06_Name.l0 k x0 (wrap64 (x3 + 1)))) else (if (bt x0 x3) ≤ 57 then (if x3 = 0 then (some false) else (ententeref06_Name.l0 k x0 (wrap64 (x3 + 1)))) else (some false))) else (if (bt x0 x3) ≤ 122 then (if x3 = 0 then (ententeref06_Name.l0 k x0 (wrap64 (x3 + 1))) else (ententeref06_Name.l0 k x0 (wrap64 (x3 + 1)))) else (some false))) else (if (bt x0 x3) ≥ 48 then (if (bt x0 x3) ≤ 57 then (if x3 = 0 then (some false) else (ententeref06_Name.l0 k x0 (wrap64 (x3 + 1)))) else (some false)) else (some false))) else (none)) else (some true)
end
def ententeref06_Name.f (k : Nat) (a0 : ByteArray) : Option (Bool) := if (a0.size : Int) < 1 then (ententeref06_Name.j0 k a0 true) else (ententeref06_Name.j0 k a0 (decide ((a0.size : Int) > 16)))
theorem ententeref06_Name.mono_l : ∀ k, (∀ y0 y1, LeO (ententeref06_Name.j0 k y0 y1) (ententeref06_Name.j0 (k + 1) y0 y1)) ∧ (∀ y0 y1, LeO (ententeref06_Name.l0 k y0 y1) (ententeref06_Name.l0 (k + 1) y0 y1))
 | 0 => ⟨fun _ _ r h => by simp [ententeref06_Name.j0] at h, fun _ _ r h => by simp [ententeref06_Name.l0] at h⟩
 | k + 1 => by
  obtain ⟨ih0, ih1⟩ := ententeref06_Name.mono_l k
  refine ⟨?_, ?_⟩
  ·intro y0 y1
   unfold ententeref06_Name.j0
   repeat' first
   | (with_reducible exact ih0 _ _)
   | (with_reducible exact ih1 _ _)
   | (with_reducible exact LeO.refl _)
   | (with_reducible exact LeO.none _)
   | (with_reducible refine LeO.ite ?_ ?_)
   | (with_reducible refine LeO.bind ?_ (fun _ => ?_))
   | exact ih0 _ _
   | exact ih1 _ _
   | exact LeO.none _
   | refine LeO.ite ?_ ?_
   | refine LeO.bind ?_ (fun _ => ?_)
  ·intro y0 y1
   unfold ententeref06_Name.l0
   repeat' first
   | (with_reducible exact ih0 _ _)
   | (with_reducible exact ih1 _ _)
   | (with_reducible exact LeO.refl _)
   | (with_reducible exact LeO.none _)
   | (with_reducible refine LeO.ite ?_ ?_)
   | (with_reducible refine LeO.bind ?_ (fun _ => ?_))
   | exact ih0 _ _
   | exact ih1 _ _
   | exact LeO.none _
   | refine LeO.ite ?_ ?_
   | refine LeO.bind ?_ (fun _ => ?_)
theorem ententeref06_Name.mono : ∀ a0 k, LeO (ententeref06_Name.f k a0) (ententeref06_Name.f (k + 1) a0) := by
 intro a0 k
 obtain ⟨ih0, ih1⟩ := ententeref06_Name.mono_l k
 unfold ententeref06_Name.f
 repeat' first
   | (with_reducible exact ih0 _ _)
   | (with_reducible exact ih1 _ _)
   | (with_reducible exact LeO.refl _)
   | (with_reducible exact LeO.none _)
   | (with_reducible refine LeO.ite ?_ ?_)
   | (with_reducible refine LeO.bind ?_ (fun _ => ?_))
   | exact ih0 _ _
   | exact ih1 _ _
   | exact LeO.none _
   | refine LeO.ite ?_ ?_
   | refine LeO.bind ?_ (fun _ => ?_)
set_option maxHeartbeats 8000000 in
set_option maxRecDepth 100000 in
theorem ententeref06_Name.calls (k : Nat) (a0 : ByteArray) (r : Bool) (w : World) (h : ententeref06_Name.f k a0 = some r) :
  Calls Tryd.prog 29 #[.string a0] w fun e w' => e = .returned (.bool r) ∧ Drawn0 w w' := by
 have H : (if (a0.size : Int) < 1 then (ententeref06_Name.j0 k a0 true) else (ententeref06_Name.j0 k a0 (decide ((a0.size : Int) > 16)))) = some r := h
 clear h
 have HC2 := Aside0.mk H
 clear H
 go_enter Tryd.func29, Tryd.ntmps29
 go_upto_region 1 with (fail)
 go_cut [13] (fun v13 wc => ∃ (kq : Nat) (x13_1 : Bool), v13 = .bool x13_1 ∧ Aside0 (ententeref06_Name.j0 kq a0 x13_1 = some r) ∧ Aside0 (kq ≤ k) ∧ Drawn0 w wc)
 case first =>
  have H := HC2.out
  clear HC2
  by_cases c3 : (a0.size : Int) < 1
  ·rw [if_pos c3] at H
   have c3b0 : decide ((a0.size : Int) < 1) = true := decide_eq_true c3
   have c3b1 : decide (a0.size < 1) = true := decide_eq_true (by omega)
   clear c3
   (skip)
   have H' := Aside0.mk H
   clear H
   go_wp2
   go_meet
   case rel => exact ⟨_, (true), (by rfl), H', ⟨by omega⟩, Drawn0.refl _⟩
  ·rw [if_neg c3] at H
   have c3b0 : decide ((a0.size : Int) < 1) = false := decide_eq_false c3
   have c3b1 : decide (a0.size < 1) = false := decide_eq_false (by omega)
   clear c3
   (skip)
   have H' := Aside0.mk H
   clear H
   go_wp2
   go_meet
   case rel => exact ⟨_, (decide ((a0.size : Int) > 16)), (by rfl), H', ⟨by omega⟩, Drawn0.refl _⟩
 case rest =>
  clear HC2
  obtain ⟨kq, x13_1, rfl, HA, HJ1, ⟨mc1, rfl⟩⟩ := hcut
  cases kq with
  | zero => exact absurd HA.out (by simp [ententeref06_Name.j0])
  | succ kj1 =>
   have H := HA.out
   clear HA
   simp only [ententeref06_Name.j0] at H
   by_cases c4 : x13_1 = true
   ·subst c4
    have H1 : (some false) = some r := by rw [if_pos rfl] at H; exact H
    clear H
    have H := H1
    clear H1
    obtain rfl := Option.some.inj H
    go_wp2
    go_ret
    exact ⟨by rfl, by repeat (first | exact Drawn0.refl _ | apply Drawn0.step)⟩
   ·replace c4 := Bool.eq_false_iff.mpr c4
    subst c4
    have H1 : (ententeref06_Name.l0 kj1 a0 0) = some r := by rw [if_neg (show ¬ (false = true) by decide)] at H; exact H
    clear H
    have H := H1
    clear H1
    have H' := Aside0.mk H
    clear H
    go_wp2
    go_loopg [3] kj1 (fun kq v3 w' => ∃ (x3_2 : Int), v3 = .int .i64 x3_2 ∧ Aside0 (ententeref06_Name.l0 kq a0 x3_2 = some r) ∧ Aside0 (kq ≤ kj1) ∧ Drawn0 w w')
    case atStart => exact ⟨(0), (by rfl), H', ⟨Nat.le_refl _⟩, by repeat (first | exact Drawn0.refl _ | apply Drawn0.step)⟩
    case round =>
     clear H'
     obtain ⟨x3_2, rfl, HA, HK2, ⟨m2, rfl⟩⟩ := hrel
     cases gk with
     | zero => exact absurd HA.out (by simp [ententeref06_Name.l0])
     | succ k2 =>
      have H := HA.out
      clear HA
      simp only [ententeref06_Name.l0] at H
      by_cases c5 : x3_2 < (a0.size : Int)
      ·rw [if_pos c5] at H
       have c5b0 : decide (x3_2 < (a0.size : Int)) = true := decide_eq_true c5
       clear c5
       by_cases c6 : 0 ≤ x3_2
       ·rw [if_pos c6] at H
        have c6b0 : decide (0 ≤ x3_2) = true := decide_eq_true c6
        clear c6
        by_cases c8 : (bt a0 x3_2) ≥ 97
        ·rw [if_pos c8] at H
         have c8b0 : decide (97 ≤ (bt a0 x3_2)) = true := decide_eq_true c8
         clear c8
         by_cases c11 : (bt a0 x3_2) ≥ 48
         ·rw [if_pos c11] at H
          have c11b0 : decide (48 ≤ (bt a0 x3_2)) = true := decide_eq_true c11
          clear c11
          by_cases c13 : (bt a0 x3_2) ≤ 122
          ·rw [if_pos c13] at H
           have c13b0 : decide ((bt a0 x3_2) ≤ 122) = true := decide_eq_true c13
           clear c13
           by_cases c14 : x3_2 = 0
           ·rw [if_pos c14] at H
            have c14b0 : (x3_2 == 0) = true := beq_iff_eq.mpr c14
            have c14b1 : (x3_2 != 0) = false := bne_eq_false_iff_eq.mpr c14
            clear c14
            by_cases c15 : (bt a0 x3_2) ≤ 57
            ·rw [if_pos c15] at H
             have c15b0 : decide ((bt a0 x3_2) ≤ 57) = true := decide_eq_true c15
             clear c15
             obtain rfl := Option.some.inj H
             have p7 : 0 ≤ (x3_2 : Int) := of_decide_eq_true (by (with_reducible assumption))
             have q7 : x3_2 < (a0.size : Int) := of_decide_eq_true (by (with_reducible assumption))
             have hx7 := bt_at a0 x3_2
             replace p7 := eq_true p7
             replace q7 := eq_true q7
             have p9 : 0 ≤ (x3_2 : Int) := of_decide_eq_true (by (with_reducible assumption))
             have q9 : x3_2 < (a0.size : Int) := of_decide_eq_true (by (with_reducible assumption))
             have hx9 := bt_at a0 x3_2
             replace p9 := eq_true p9
             replace q9 := eq_true q9
             have p10 : 0 ≤ (x3_2 : Int) := of_decide_eq_true (by (with_reducible assumption))
             have q10 : x3_2 < (a0.size : Int) := of_decide_eq_true (by (with_reducible assumption))
             have hx10 := bt_at a0 x3_2
             replace p10 := eq_true p10
             replace q10 := eq_true q10
             have p12 : 0 ≤ (x3_2 : Int) := of_decide_eq_true (by (with_reducible assumption))
             have q12 : x3_2 < (a0.size : Int) := of_decide_eq_true (by (with_reducible assumption))
             have hx12 := bt_at a0 x3_2
             replace p12 := eq_true p12
             replace q12 := eq_true q12
             go_wp2
             go_ret
             exact ⟨by rfl, by repeat (first | exact Drawn0.refl _ | apply Drawn0.step)⟩
            ·rw [if_neg c15] at H
             have c15b0 : decide ((bt a0 x3_2) ≤ 57) = false := decide_eq_false c15
             clear c15
             have H' := Aside0.mk H
             clear H
             have p7 : 0 ≤ (x3_2 : Int) := of_decide_eq_true (by (with_reducible assumption))
             have q7 : x3_2 < (a0.size : Int) := of_decide_eq_true (by (with_reducible assumption))
             have hx7 := bt_at a0 x3_2
             replace p7 := eq_true p7
             replace q7 := eq_true q7
             have p9 : 0 ≤ (x3_2 : Int) := of_decide_eq_true (by (with_reducible assumption))
             have q9 : x3_2 < (a0.size : Int) := of_decide_eq_true (by (with_reducible assumption))
             have hx9 := bt_at a0 x3_2
             replace p9 := eq_true p9
             replace q9 := eq_true q9
             have p10 : 0 ≤ (x3_2 : Int) := of_decide_eq_true (by (with_reducible assumption))
             have q10 : x3_2 < (a0.size : Int) := of_decide_eq_true (by (with_reducible assumption))
             have hx10 := bt_at a0 x3_2
             replace p10 := eq_true p10
             replace q10 := eq_true q10
             have p12 : 0 ≤ (x3_2 : Int) := of_decide_eq_true (by (with_reducible assumption))
             have q12 : x3_2 < (a0.size : Int) := of_decide_eq_true (by (with_reducible assumption))
             have hx12 := bt_at a0 x3_2
             replace p12 := eq_true p12
             replace q12 := eq_true q12
             go_wp2
             go_roundg k2
             case measure => have := HJ1.out; have := HK2.out; omega
             case rel => exact ⟨(wrap64 (x3_2 + 1)), (by rfl), H', ⟨by have := HJ1.out; have := HK2.out; omega⟩, by repeat (first | exact Drawn0.refl _ | apply Drawn0.step)⟩
           ·rw [if_neg c14] at H
            have c14b0 : (x3_2 == 0) = false := beq_eq_false_iff_ne.mpr c14
            have c14b1 : (x3_2 != 0) = true := bne_iff_ne.mpr c14
            have H' := Aside0.mk H
            clear H
            have p7 : 0 ≤ (x3_2 : Int) := of_decide_eq_true (by (with_reducible assumption))
            have q7 : x3_2 < (a0.size : Int) := of_decide_eq_true (by (with_reducible assumption))
            have hx7 := bt_at a0 x3_2
            replace p7 := eq_true p7
            replace q7 := eq_true q7
            have p9 : 0 ≤ (x3_2 : Int) := of_decide_eq_true (by (with_reducible assumption))
            have q9 : x3_2 < (a0.size : Int) := of_decide_eq_true (by (with_reducible assumption))
            have hx9 := bt_at a0 x3_2
            replace p9 := eq_true p9
            replace q9 := eq_true q9
            have p10 : 0 ≤ (x3_2 : Int) := of_decide_eq_true (by (with_reducible assumption))
            have q10 : x3_2 < (a0.size : Int) := of_decide_eq_true (by (with_reducible assumption))
            have hx10 := bt_at a0 x3_2
            replace p10 := eq_true p10
            replace q10 := eq_true q10
            have p12 : 0 ≤ (x3_2 : Int) := of_decide_eq_true (by (with_reducible assumption))
            have q12 : x3_2 < (a0.size : Int) := of_decide_eq_true (by (with_reducible assumption))
            have hx12 := bt_at a0 x3_2
            replace p12 := eq_true p12
            replace q12 := eq_true q12
            go_wp2
            go_roundg k2
            case measure => have := HJ1.out; have := HK2.out; omega
            case rel => exact ⟨(wrap64 (x3_2 + 1)), (by rfl), H', ⟨by have := HJ1.out; have := HK2.out; omega⟩, by repeat (first | exact Drawn0.refl _ | apply Drawn0.step)⟩
          ·rw [if_neg c13] at H
           have c13b0 : decide ((bt a0 x3_2) ≤ 122) = false := decide_eq_false c13
           clear c13
           by_cases c16 : (bt a0 x3_2) ≤ 57
           ·rw [if_pos c16] at H
            have c16b0 : decide ((bt a0 x3_2) ≤ 57) = true := decide_eq_true c16
            clear c16
            by_cases c17 : x3_2 = 0
            ·rw [if_pos c17] at H
             have c17b0 : (x3_2 == 0) = true := beq_iff_eq.mpr c17
             have c17b1 : (x3_2 != 0) = false := bne_eq_false_iff_eq.mpr c17
             clear c17
             obtain rfl := Option.some.inj H
             have p7 : 0 ≤ (x3_2 : Int) := of_decide_eq_true (by (with_reducible assumption))
             have q7 : x3_2 < (a0.size : Int) := of_decide_eq_true (by (with_reducible assumption))
             have hx7 := bt_at a0 x3_2
             replace p7 := eq_true p7
             replace q7 := eq_true q7
             have p9 : 0 ≤ (x3_2 : Int) := of_decide_eq_true (by (with_reducible assumption))
             have q9 : x3_2 < (a0.size : Int) := of_decide_eq_true (by (with_reducible assumption))
             have hx9 := bt_at a0 x3_2
             replace p9 := eq_true p9
             replace q9 := eq_true q9
             have p10 : 0 ≤ (x3_2 : Int) := of_decide_eq_true (by (with_reducible assumption))
             have q10 : x3_2 < (a0.size : Int) := of_decide_eq_true (by (with_reducible assumption))
             have hx10 := bt_at a0 x3_2
             replace p10 := eq_true p10
             replace q10 := eq_true q10
             have p12 : 0 ≤ (x3_2 : Int) := of_decide_eq_true (by (with_reducible assumption))
             have q12 : x3_2 < (a0.size : Int) := of_decide_eq_true (by (with_reducible assumption))
             have hx12 := bt_at a0 x3_2
             replace p12 := eq_true p12
             replace q12 := eq_true q12
             go_wp2
             go_ret
             exact ⟨by rfl, by repeat (first | exact Drawn0.refl _ | apply Drawn0.step)⟩
            ·rw [if_neg c17] at H
             have c17b0 : (x3_2 == 0) = false := beq_eq_false_iff_ne.mpr c17
             have c17b1 : (x3_2 != 0) = true := bne_iff_ne.mpr c17
             have H' := Aside0.mk H
             clear H
             have p7 : 0 ≤ (x3_2 : Int) := of_decide_eq_true (by (with_reducible assumption))
             have q7 : x3_2 < (a0.size : Int) := of_decide_eq_true (by (with_reducible assumption))
             have hx7 := bt_at a0 x3_2
             replace p7 := eq_true p7
             replace q7 := eq_true q7
             have p9 : 0 ≤ (x3_2 : Int) := of_decide_eq_true (by (with_reducible assumption))
             have q9 : x3_2 < (a0.size : Int) := of_decide_eq_true (by (with_reducible assumption))
             have hx9 := bt_at a0 x3_2
             replace p9 := eq_true p9
             replace q9 := eq_true q9
             have p10 : 0 ≤ (x3_2 : Int) := of_decide_eq_true (by (with_reducible assumption))
             have q10 : x3_2 < (a0.size : Int) := of_decide_eq_true (by (with_reducible assumption))
             have hx10 := bt_at a0 x3_2
             replace p10 := eq_true p10
             replace q10 := eq_true q10
             have p12 : 0 ≤ (x3_2 : Int) := of_decide_eq_true (by (with_reducible assumption))
             have q12 : x3_2 < (a0.size : Int) := of_decide_eq_true (by (with_reducible assumption))
             have hx12 := bt_at a0 x3_2
             replace p12 := eq_true p12
             replace q12 := eq_true q12
             go_wp2
             go_roundg k2
             case measure => have := HJ1.out; have := HK2.out; omega
             case rel => exact ⟨(wrap64 (x3_2 + 1)), (by rfl), H', ⟨by have := HJ1.out; have := HK2.out; omega⟩, by repeat (first | exact Drawn0.refl _ | apply Drawn0.step)⟩
           ·rw [if_neg c16] at H
            have c16b0 : decide ((bt a0 x3_2) ≤ 57) = false := decide_eq_false c16
            clear c16
            obtain rfl := Option.some.inj H
            have p7 : 0 ≤ (x3_2 : Int) := of_decide_eq_true (by (with_reducible assumption))
            have q7 : x3_2 < (a0.size : Int) := of_decide_eq_true (by (with_reducible assumption))
            have hx7 := bt_at a0 x3_2
            replace p7 := eq_true p7
            replace q7 := eq_true q7
            have p9 : 0 ≤ (x3_2 : Int) := of_decide_eq_true (by (with_reducible assumption))
            have q9 : x3_2 < (a0.size : Int) := of_decide_eq_true (by (with_reducible assumption))
            have hx9 := bt_at a0 x3_2
            replace p9 := eq_true p9
            replace q9 := eq_true q9
            have p10 : 0 ≤ (x3_2 : Int) := of_decide_eq_true (by (with_reducible assumption))
            have q10 : x3_2 < (a0.size : Int) := of_decide_eq_true (by (with_reducible assumption))
            have hx10 := bt_at a0 x3_2
            replace p10 := eq_true p10
            replace q10 := eq_true q10
            have p12 : 0 ≤ (x3_2 : Int) := of_decide_eq_true (by (with_reducible assumption))
            have q12 : x3_2 < (a0.size : Int) := of_decide_eq_true (by (with_reducible assumption))
            have hx12 := bt_at a0 x3_2
            replace p12 := eq_true p12
            replace q12 := eq_true q12
            go_wp2
            go_ret
            exact ⟨by rfl, by repeat (first | exact Drawn0.refl _ | apply Drawn0.step)⟩
         ·rw [if_neg c11] at H
          have c11b0 : decide (48 ≤ (bt a0 x3_2)) = false := decide_eq_false c11
          clear c11
          by_cases c18 : (bt a0 x3_2) ≤ 122
          ·rw [if_pos c18] at H
           have c18b0 : decide ((bt a0 x3_2) ≤ 122) = true := decide_eq_true c18
           clear c18
           by_cases c19 : x3_2 = 0
           ·rw [if_pos c19] at H
            have c19b0 : (x3_2 == 0) = true := beq_iff_eq.mpr c19
            have c19b1 : (x3_2 != 0) = false := bne_eq_false_iff_eq.mpr c19
            clear c19
            have H' := Aside0.mk H
            clear H
            have p7 : 0 ≤ (x3_2 : Int) := of_decide_eq_true (by (with_reducible assumption))
            have q7 : x3_2 < (a0.size : Int) := of_decide_eq_true (by (with_reducible assumption))
            have hx7 := bt_at a0 x3_2
            replace p7 := eq_true p7
            replace q7 := eq_true q7
            have p9 : 0 ≤ (x3_2 : Int) := of_decide_eq_true (by (with_reducible assumption))
            have q9 : x3_2 < (a0.size : Int) := of_decide_eq_true (by (with_reducible assumption))
            have hx9 := bt_at a0 x3_2
            replace p9 := eq_true p9
            replace q9 := eq_true q9
            have p10 : 0 ≤ (x3_2 : Int) := of_decide_eq_true (by (with_reducible assumption))
            have q10 : x3_2 < (a0.size : Int) := of_decide_eq_true (by (with_reducible assumption))
            have hx10 := bt_at a0 x3_2
            replace p10 := eq_true p10
            replace q10 := eq_true q10
            go_wp2
            go_roundg k2
            case measure => have := HJ1.out; have := HK2.out; omega
            case rel => exact ⟨(wrap64 (x3_2 + 1)), (by rfl), H', ⟨by have := HJ1.out; have := HK2.out; omega⟩, by repeat (first | exact Drawn0.refl _ | apply Drawn0.step)⟩
           ·rw [if_neg c19] at H
            have c19b0 : (x3_2 == 0) = false := beq_eq_false_iff_ne.mpr c19
            have c19b1 : (x3_2 != 0) = true := bne_iff_ne.mpr c19
            have H' := Aside0.mk H
            clear H
            have p7 : 0 ≤ (x3_2 : Int) := of_decide_eq_true (by (with_reducible assumption))
            have q7 : x3_2 < (a0.size : Int) := of_decide_eq_true (by (with_reducible assumption))
            have hx7 := bt_at a0 x3_2
            replace p7 := eq_true p7
            replace q7 := eq_true q7
            have p9 : 0 ≤ (x3_2 : Int) := of_decide_eq_true (by (with_reducible assumption))
            have q9 : x3_2 < (a0.size : Int) := of_decide_eq_true (by (with_reducible assumption))
            have hx9 := bt_at a0 x3_2
            replace p9 := eq_true p9
            replace q9 := eq_true q9
            have p10 : 0 ≤ (x3_2 : Int) := of_decide_eq_true (by (with_reducible assumption))
            have q10 : x3_2 < (a0.size : Int) := of_decide_eq_true (by (with_reducible assumption))
            have hx10 := bt_at a0 x3_2
            replace p10 := eq_true p10
            replace q10 := eq_true q10
            go_wp2
            go_roundg k2
            case measure => have := HJ1.out; have := HK2.out; omega
            case rel => exact ⟨(wrap64 (x3_2 + 1)), (by rfl), H', ⟨by have := HJ1.out; have := HK2.out; omega⟩, by repeat (first | exact Drawn0.refl _ | apply Drawn0.step)⟩
          ·rw [if_neg c18] at H
           have c18b0 : decide ((bt a0 x3_2) ≤ 122) = false := decide_eq_false c18
           clear c18
           obtain rfl := Option.some.inj H
           have p7 : 0 ≤ (x3_2 : Int) := of_decide_eq_true (by (with_reducible assumption))
           have q7 : x3_2 < (a0.size : Int) := of_decide_eq_true (by (with_reducible assumption))
           have hx7 := bt_at a0 x3_2
           replace p7 := eq_true p7
           replace q7 := eq_true q7
           have p9 : 0 ≤ (x3_2 : Int) := of_decide_eq_true (by (with_reducible assumption))
           have q9 : x3_2 < (a0.size : Int) := of_decide_eq_true (by (with_reducible assumption))
           have hx9 := bt_at a0 x3_2
           replace p9 := eq_true p9
           replace q9 := eq_true q9
           have p10 : 0 ≤ (x3_2 : Int) := of_decide_eq_true (by (with_reducible assumption))
           have q10 : x3_2 < (a0.size : Int) := of_decide_eq_true (by (with_reducible assumption))
           have hx10 := bt_at a0 x3_2
           replace p10 := eq_true p10
           replace q10 := eq_true q10
           go_wp2
           go_ret
           exact ⟨by rfl, by repeat (first | exact Drawn0.refl _ | apply Drawn0.step)⟩
        ·rw [if_neg c8] at H
         have c8b0 : decide (97 ≤ (bt a0 x3_2)) = false := decide_eq_false c8
         clear c8
         by_cases c21 : (bt a0 x3_2) ≥ 48
         ·rw [if_pos c21] at H
          have c21b0 : decide (48 ≤ (bt a0 x3_2)) = true := decide_eq_true c21
          clear c21
          by_cases c23 : (bt a0 x3_2) ≤ 57
          ·rw [if_pos c23] at H
           have c23b0 : decide ((bt a0 x3_2) ≤ 57) = true := decide_eq_true c23
           clear c23
           by_cases c24 : x3_2 = 0
           ·rw [if_pos c24] at H
            have c24b0 : (x3_2 == 0) = true := beq_iff_eq.mpr c24
            have c24b1 : (x3_2 != 0) = false := bne_eq_false_iff_eq.mpr c24
            clear c24
            obtain rfl := Option.some.inj H
            have p7 : 0 ≤ (x3_2 : Int) := of_decide_eq_true (by (with_reducible assumption))
            have q7 : x3_2 < (a0.size : Int) := of_decide_eq_true (by (with_reducible assumption))
            have hx7 := bt_at a0 x3_2
            replace p7 := eq_true p7
            replace q7 := eq_true q7
            have p20 : 0 ≤ (x3_2 : Int) := of_decide_eq_true (by (with_reducible assumption))
            have q20 : x3_2 < (a0.size : Int) := of_decide_eq_true (by (with_reducible assumption))
            have hx20 := bt_at a0 x3_2
            replace p20 := eq_true p20
            replace q20 := eq_true q20
            have p22 : 0 ≤ (x3_2 : Int) := of_decide_eq_true (by (with_reducible assumption))
            have q22 : x3_2 < (a0.size : Int) := of_decide_eq_true (by (with_reducible assumption))
            have hx22 := bt_at a0 x3_2
            replace p22 := eq_true p22
            replace q22 := eq_true q22
            go_wp2
            go_ret
            exact ⟨by rfl, by repeat (first | exact Drawn0.refl _ | apply Drawn0.step)⟩
           ·rw [if_neg c24] at H
            have c24b0 : (x3_2 == 0) = false := beq_eq_false_iff_ne.mpr c24
            have c24b1 : (x3_2 != 0) = true := bne_iff_ne.mpr c24
            have H' := Aside0.mk H
            clear H
            have p7 : 0 ≤ (x3_2 : Int) := of_decide_eq_true (by (with_reducible assumption))
            have q7 : x3_2 < (a0.size : Int) := of_decide_eq_true (by (with_reducible assumption))
            have hx7 := bt_at a0 x3_2
            replace p7 := eq_true p7
            replace q7 := eq_true q7
            have p20 : 0 ≤ (x3_2 : Int) := of_decide_eq_true (by (with_reducible assumption))
            have q20 : x3_2 < (a0.size : Int) := of_decide_eq_true (by (with_reducible assumption))
            have hx20 := bt_at a0 x3_2
            replace p20 := eq_true p20
            replace q20 := eq_true q20
            have p22 : 0 ≤ (x3_2 : Int) := of_decide_eq_true (by (with_reducible assumption))
            have q22 : x3_2 < (a0.size : Int) := of_decide_eq_true (by (with_reducible assumption))
            have hx22 := bt_at a0 x3_2
            replace p22 := eq_true p22
            replace q22 := eq_true q22
            go_wp2
            go_roundg k2
            case measure => have := HJ1.out; have := HK2.out; omega
            case rel => exact ⟨(wrap64 (x3_2 + 1)), (by rfl), H', ⟨by have := HJ1.out; have := HK2.out; omega⟩, by repeat (first | exact Drawn0.refl _ | apply Drawn0.step)⟩
          ·rw [if_neg c23] at H
           have c23b0 : decide ((bt a0 x3_2) ≤ 57) = false := decide_eq_false c23
           clear c23
           obtain rfl := Option.some.inj H
           have p7 : 0 ≤ (x3_2 : Int) := of_decide_eq_true (by (with_reducible assumption))
           have q7 : x3_2 < (a0.size : Int) := of_decide_eq_true (by (with_reducible assumption))
           have hx7 := bt_at a0 x3_2
           replace p7 := eq_true p7
           replace q7 := eq_true q7
           have p20 : 0 ≤ (x3_2 : Int) := of_decide_eq_true (by (with_reducible assumption))
           have q20 : x3_2 < (a0.size : Int) := of_decide_eq_true (by (with_reducible assumption))
           have hx20 := bt_at a0 x3_2
           replace p20 := eq_true p20
           replace q20 := eq_true q20
           have p22 : 0 ≤ (x3_2 : Int) := of_decide_eq_true (by (with_reducible assumption))
           have q22 : x3_2 < (a0.size : Int) := of_decide_eq_true (by (with_reducible assumption))
           have hx22 := bt_at a0 x3_2
           replace p22 := eq_true p22
           replace q22 := eq_true q22
           go_wp2
           go_ret
           exact ⟨by rfl, by repeat (first | exact Drawn0.refl _ | apply Drawn0.step)⟩
         ·rw [if_neg c21] at H
          have c21b0 : decide (48 ≤ (bt a0 x3_2)) = false := decide_eq_false c21
          clear c21
          obtain rfl := Option.some.inj H
          have p7 : 0 ≤ (x3_2 : Int) := of_decide_eq_true (by (with_reducible assumption))
          have q7 : x3_2 < (a0.size : Int) := of_decide_eq_true (by (with_reducible assumption))
          have hx7 := bt_at a0 x3_2
          replace p7 := eq_true p7
          replace q7 := eq_true q7
          have p20 : 0 ≤ (x3_2 : Int) := of_decide_eq_true (by (with_reducible assumption))
          have q20 : x3_2 < (a0.size : Int) := of_decide_eq_true (by (with_reducible assumption))
          have hx20 := bt_at a0 x3_2
          replace p20 := eq_true p20
          replace q20 := eq_true q20
          go_wp2
          go_ret
          exact ⟨by rfl, by repeat (first | exact Drawn0.refl _ | apply Drawn0.step)⟩
       ·rw [if_neg c6] at H
        exact absurd H (by simp)
      ·rw [if_neg c5] at H
       have c5b0 : decide (x3_2 < (a0.size : Int)) = false := decide_eq_false c5
       clear c5
       obtain rfl := Option.some.inj H
       go_wp2
       go_ret
       exact ⟨by rfl, by repeat (first | exact Drawn0.refl _ | apply Drawn0.step)⟩

/-! ### ententeref13_Check: function 13 -/
mutual
def ententeref13_Check.j0 : Nat → Bool → Int → Int → Int → List (S50) → ByteArray → Int → Option (Int)
 | 0, _, _, _, _, _, _, _ => none
 | k + 1, x23, x330000, x330001, x330002, x330003, x330004, x330005 => if x23 = true then (some 130) else (if x330000 = 1 then ((ententeref06_Name.f k x330004).bind fun t331 => (if t331 = true then (ententeref13_Check.j1 k false x330000 x330001 x330002 x330003 x330004 x330005) else (ententeref13_Check.j1 k true x330000 x330001 x330002 x330003 x330004 x330005))) else (ententeref13_Check.j1 k (x330004.toList != ([] : List UInt8)) x330000 x330001 x330002 x330003 x330004 x330005))
def ententeref13_Check.j1 : Nat → Bool → Int → Int → Int → List (S50) → ByteArray → Int → Option (Int)
 | 0, _, _, _, _, _, _, _ => none
 | k + 1, x42, x330000, x330001, x330002, x330003, x330004, x330005 => if x42 = true then (some 130) else (if x330000 = 6 then (if x330005 < 1 then (some 130) else (if x330005 > 9 then (some 130) else (some 0))) else (if x330005 = 0 then (some 0) else (some 130)))
end
def ententeref13_Check.f (k : Nat) (a0_0 : Int) (a0_1 : Int) (a0_2 : Int) (l0_3 : List (S50)) (a0_4 : ByteArray) (a0_5 : Int) : Option (Int) := if a0_0 < 1 then (ententeref13_Check.j0 k true a0_0 a0_1 a0_2 l0_3 a0_4 a0_5) else (if a0_0 > 7 then (ententeref13_Check.j0 k true a0_0 a0_1 a0_2 l0_3 a0_4 a0_5) else ((ententeref03_Check.f k a0_1 a0_2 l0_3).bind fun t330 => (if t330 = 0 then (ententeref13_Check.j0 k ((l0_3.length : Int) == 0) a0_0 a0_1 a0_2 l0_3 a0_4 a0_5) else (ententeref13_Check.j0 k true a0_0 a0_1 a0_2 l0_3 a0_4 a0_5))))
theorem ententeref13_Check.mono_l : ∀ k, (∀ y0 y1 y2 y3 y4 y5 y6, LeO (ententeref13_Check.j0 k y0 y1 y2 y3 y4 y5 y6) (ententeref13_Check.j0 (k + 1) y0 y1 y2 y3 y4 y5 y6)) ∧ (∀ y0 y1 y2 y3 y4 y5 y6, LeO (ententeref13_Check.j1 k y0 y1 y2 y3 y4 y5 y6) (ententeref13_Check.j1 (k + 1) y0 y1 y2 y3 y4 y5 y6))
 | 0 => ⟨fun _ _ _ _ _ _ _ r h => by simp [ententeref13_Check.j0] at h, fun _ _ _ _ _ _ _ r h => by simp [ententeref13_Check.j1] at h⟩
 | k + 1 => by
  obtain ⟨ih0, ih1⟩ := ententeref13_Check.mono_l k
  refine ⟨?_, ?_⟩
  ·intro y0 y1 y2 y3 y4 y5 y6
   unfold ententeref13_Check.j0
   repeat' first
   | (with_reducible exact ih0 _ _ _ _ _ _ _)
   | (with_reducible exact ih1 _ _ _ _ _ _ _)
   | (with_reducible exact ententeref03_Check.mono _ _ _ _)
   | (with_reducible exact ententeref06_Name.mono _ _)
   | (with_reducible exact LeO.refl _)
   | (with_reducible exact LeO.none _)
   | (with_reducible refine LeO.ite ?_ ?_)
   | (with_reducible refine LeO.bind ?_ (fun _ => ?_))
   | exact ih0 _ _ _ _ _ _ _
   | exact ih1 _ _ _ _ _ _ _
   | exact ententeref03_Check.mono _ _ _ _
   | exact ententeref06_Name.mono _ _
   | exact LeO.none _
   | refine LeO.ite ?_ ?_
   | refine LeO.bind ?_ (fun _ => ?_)
  ·intro y0 y1 y2 y3 y4 y5 y6
   unfold ententeref13_Check.j1
   repeat' first
   | (with_reducible exact ih0 _ _ _ _ _ _ _)
   | (with_reducible exact ih1 _ _ _ _ _ _ _)
   | (with_reducible exact ententeref03_Check.mono _ _ _ _)
   | (with_reducible exact ententeref06_Name.mono _ _)
   | (with_reducible exact LeO.refl _)
   | (with_reducible exact LeO.none _)
   | (with_reducible refine LeO.ite ?_ ?_)
   | (with_reducible refine LeO.bind ?_ (fun _ => ?_))
   | exact ih0 _ _ _ _ _ _ _
   | exact ih1 _ _ _ _ _ _ _
   | exact ententeref03_Check.mono _ _ _ _
   | exact ententeref06_Name.mono _ _
   | exact LeO.none _
   | refine LeO.ite ?_ ?_
   | refine LeO.bind ?_ (fun _ => ?_)
theorem ententeref13_Check.mono : ∀ a0 a1 a2 a3 a4 a5 k, LeO (ententeref13_Check.f k a0 a1 a2 a3 a4 a5) (ententeref13_Check.f (k + 1) a0 a1 a2 a3 a4 a5) := by
 intro a0 a1 a2 a3 a4 a5 k
 obtain ⟨ih0, ih1⟩ := ententeref13_Check.mono_l k
 unfold ententeref13_Check.f
 repeat' first
   | (with_reducible exact ih0 _ _ _ _ _ _ _)
   | (with_reducible exact ih1 _ _ _ _ _ _ _)
   | (with_reducible exact ententeref03_Check.mono _ _ _ _)
   | (with_reducible exact ententeref06_Name.mono _ _)
   | (with_reducible exact LeO.refl _)
   | (with_reducible exact LeO.none _)
   | (with_reducible refine LeO.ite ?_ ?_)
   | (with_reducible refine LeO.bind ?_ (fun _ => ?_))
   | exact ih0 _ _ _ _ _ _ _
   | exact ih1 _ _ _ _ _ _ _
   | exact ententeref03_Check.mono _ _ _ _
   | exact ententeref06_Name.mono _ _
   | exact LeO.none _
   | refine LeO.ite ?_ ?_
   | refine LeO.bind ?_ (fun _ => ?_)
set_option maxHeartbeats 8000000 in
set_option maxRecDepth 100000 in
theorem ententeref13_Check.calls (k : Nat) (a0_0 : Int) (a0_1 : Int) (a0_2 : Int) (A0_3 : Option Addr) (c0_3 : Nat) (l0_3 : List (S50)) (a0_4 : ByteArray) (a0_5 : Int) (r : Int) (w : World) (hr0_3 : Kd.C k50 w A0_3 l0_3.length l0_3) (hc0_3 : l0_3.length ≤ c0_3) (h : ententeref13_Check.f k a0_0 a0_1 a0_2 l0_3 a0_4 a0_5 = some r) :
  Calls Tryd.prog 13 #[.agg #[.int .i64 a0_0, .int .i64 a0_1, .int .i64 a0_2, .slice A0_3 l0_3.length c0_3, .string a0_4, .int .i64 a0_5]] w fun e w' => e = .returned (.int .i64 r) ∧ Below w.heap.size w w' := by
 have hu26 := Tryd.underlying26
 have hu24 := Tryd.underlying24
 have HR0_3 := Aside0.mk hr0_3
 have HC0_3 := Aside0.mk hc0_3
 clear hr0_3 hc0_3
 have HB := Aside0.mk (Below.refl w.heap.size w)
 have H : (if a0_0 < 1 then (ententeref13_Check.j0 k true a0_0 a0_1 a0_2 l0_3 a0_4 a0_5) else (if a0_0 > 7 then (ententeref13_Check.j0 k true a0_0 a0_1 a0_2 l0_3 a0_4 a0_5) else ((ententeref03_Check.f k a0_1 a0_2 l0_3).bind fun t330 => (if t330 = 0 then (ententeref13_Check.j0 k ((l0_3.length : Int) == 0) a0_0 a0_1 a0_2 l0_3 a0_4 a0_5) else (ententeref13_Check.j0 k true a0_0 a0_1 a0_2 l0_3 a0_4 a0_5))))) = some r := h
 clear h
 have HC2 := Aside0.mk H
 clear H
 go_enter Tryd.func13, Tryd.ntmps13
 go_upto_region 1 with (first | ((with_reducible refine gate_dst (N := 1) rfl ?_); (try (refine gate_guard (by rfl) ?_; dsimp only)); refine box_event ?hg (N := 1) ?hd (cs := #[.int .i64 a0_0, .int .i64 a0_1, .int .i64 a0_2, .slice A0_3 l0_3.length c0_3, .string a0_4, .int .i64 a0_5]) (t := 26) ?hr ?_; (case hd => rfl); (case hg => rfl); (case hr => (go_simp; done)); intro gb329 hg w3 hbox hb; have BK329 := Aside0.mk (hbox); have GW329 := Aside0.mk ((by rw [hg]; exact (below_size (HB.out)) : w.heap.size ≤ gb329)); have GE329 := Aside0.mk ((by rw [hg]; exact (below_size (HB.out)) : w.heap.size ≤ gb329)); replace HB := Aside0.mk (below_step (HB.out) hb); clear hb hbox hg))
 (try simp only [Act.put, List.setIfInBounds_toArray, List.set_cons_zero, List.set_cons_succ])
 go_cut [23] (fun v23 wc => ∃ (kq : Nat) (x23_1 : Bool), v23 = .bool x23_1 ∧ Aside0 (ententeref13_Check.j0 kq x23_1 a0_0 a0_1 a0_2 l0_3 a0_4 a0_5 = some r) ∧ Aside0 (kq ≤ k) ∧ Aside0 (wc.heap[gb329]? = some (.cells #[.int .i64 a0_0, .int .i64 a0_1, .int .i64 a0_2, (.slice A0_3 l0_3.length c0_3), .string a0_4, .int .i64 a0_5] 26 (0, 0))) ∧ Aside0 (Below w.heap.size w wc))
 case first =>
  have H := HC2.out
  clear HC2
  by_cases c4 : a0_0 < 1
  ·rw [if_pos c4] at H
   have c4b0 : decide (a0_0 < 1) = true := decide_eq_true c4
   clear c4
   (skip)
   have H' := Aside0.mk H
   clear H
   obtain ⟨hcz5_0, hcz5_1, hcz5_2, hcz5_3, hcz5_4, hcz5_5⟩ := bc6 BK329.out
   obtain ⟨hfz5_0, hfz5_1, hfz5_2, hfz5_3, hfz5_4, hfz5_5⟩ := bf6 BK329.out
   go_wp2
   go_meet
   case rel => exact ⟨_, (true), (by rfl), H', ⟨by omega⟩, ⟨by exact BK329.out⟩, ⟨HB.out⟩⟩
  ·rw [if_neg c4] at H
   have c4b0 : decide (a0_0 < 1) = false := decide_eq_false c4
   clear c4
   (skip)
   by_cases c6 : a0_0 > 7
   ·rw [if_pos c6] at H
    have c6b0 : decide (7 < a0_0) = true := decide_eq_true c6
    clear c6
    have H' := Aside0.mk H
    clear H
    obtain ⟨hcz7_0, hcz7_1, hcz7_2, hcz7_3, hcz7_4, hcz7_5⟩ := bc6 BK329.out
    obtain ⟨hfz7_0, hfz7_1, hfz7_2, hfz7_3, hfz7_4, hfz7_5⟩ := bf6 BK329.out
    go_wp2
    go_meet
    case rel => exact ⟨_, (true), (by rfl), H', ⟨by omega⟩, ⟨by exact BK329.out⟩, ⟨HB.out⟩⟩
   ·rw [if_neg c6] at H
    have c6b0 : decide (7 < a0_0) = false := decide_eq_false c6
    clear c6
    obtain ⟨t330, A80, H⟩ := Option.bind_eq_some_iff.mp H
    try dsimp only at H
    have A8 := Aside0.mk A80
    clear A80
    by_cases c9 : t330 = 0
    ·rw [if_pos c9] at H
     have c9b0 : (t330 == 0) = true := beq_iff_eq.mpr c9
     have c9b1 : (t330 != 0) = false := bne_eq_false_iff_eq.mpr c9
     clear c9
     have H' := Aside0.mk H
     clear H
     obtain ⟨hcz10_0, hcz10_1, hcz10_2, hcz10_3, hcz10_4, hcz10_5⟩ := bc6 BK329.out
     obtain ⟨hfz10_0, hfz10_1, hfz10_2, hfz10_3, hfz10_4, hfz10_5⟩ := bf6 BK329.out
     go_wp2_with (first | (go_at_call 28; (with_reducible refine (ententeref03_Check.calls k a0_1 a0_2 _ _ l0_3 t330 _ ?side1 ?side2 A8.out).mono ?_); (case side1 => exact (Kd.C_below HR0_3.out HB.out)); (case side2 => exact HC0_3.out); rintro e w11 ⟨rfl, hb⟩; replace BK329 := Aside0.mk (blk_below BK329.out hb); replace HB := Aside0.mk (below_step (HB.out) hb); clear hb; obtain ⟨hcz12_0, hcz12_1, hcz12_2, hcz12_3, hcz12_4, hcz12_5⟩ := bc6 BK329.out; obtain ⟨hfz12_0, hfz12_1, hfz12_2, hfz12_3, hfz12_4, hfz12_5⟩ := bf6 BK329.out))
     go_meet
     case rel => exact ⟨_, (((l0_3.length : Int) == 0)), (by rfl), H', ⟨by omega⟩, ⟨by exact BK329.out⟩, ⟨HB.out⟩⟩
    ·rw [if_neg c9] at H
     have c9b0 : (t330 == 0) = false := beq_eq_false_iff_ne.mpr c9
     have c9b1 : (t330 != 0) = true := bne_iff_ne.mpr c9
     have H' := Aside0.mk H
     clear H
     obtain ⟨hcz13_0, hcz13_1, hcz13_2, hcz13_3, hcz13_4, hcz13_5⟩ := bc6 BK329.out
     obtain ⟨hfz13_0, hfz13_1, hfz13_2, hfz13_3, hfz13_4, hfz13_5⟩ := bf6 BK329.out
     go_wp2_with (first | (go_at_call 28; (with_reducible refine (ententeref03_Check.calls k a0_1 a0_2 _ _ l0_3 t330 _ ?side1 ?side2 A8.out).mono ?_); (case side1 => exact (Kd.C_below HR0_3.out HB.out)); (case side2 => exact HC0_3.out); rintro e w14 ⟨rfl, hb⟩; replace BK329 := Aside0.mk (blk_below BK329.out hb); replace HB := Aside0.mk (below_step (HB.out) hb); clear hb))
     go_meet
     case rel => exact ⟨_, (true), (by rfl), H', ⟨by omega⟩, ⟨by exact BK329.out⟩, ⟨HB.out⟩⟩
 case rest =>
  clear HC2
  obtain ⟨kq, x23_1, rfl, HA, HJ1, BK329, HB⟩ := hcut
  cases kq with
  | zero => exact absurd HA.out (by simp [ententeref13_Check.j0])
  | succ kj1 =>
   have H := HA.out
   clear HA
   simp only [ententeref13_Check.j0] at H
   by_cases c15 : x23_1 = true
   ·subst c15
    have H1 : (some 130) = some r := by rw [if_pos rfl] at H; exact H
    clear H
    have H := H1
    clear H1
    obtain rfl := Option.some.inj H
    go_wp2
    go_ret
    exact ⟨by rfl, HB.out⟩
   ·replace c15 := Bool.eq_false_iff.mpr c15
    subst c15
    have H1 : (if a0_0 = 1 then ((ententeref06_Name.f kj1 a0_4).bind fun t331 => (if t331 = true then (ententeref13_Check.j1 kj1 false a0_0 a0_1 a0_2 l0_3 a0_4 a0_5) else (ententeref13_Check.j1 kj1 true a0_0 a0_1 a0_2 l0_3 a0_4 a0_5))) else (ententeref13_Check.j1 kj1 (a0_4.toList != ([] : List UInt8)) a0_0 a0_1 a0_2 l0_3 a0_4 a0_5)) = some r := by rw [if_neg (show ¬ (false = true) by decide)] at H; exact H
    clear H
    have H := H1
    clear H1
    have HC16 := Aside0.mk H
    clear H
    go_upto_region 3 with (fail)
    go_cut [42] (fun v42 wc => ∃ (kq : Nat) (x42_15 : Bool), v42 = .bool x42_15 ∧ Aside0 (ententeref13_Check.j1 kq x42_15 a0_0 a0_1 a0_2 l0_3 a0_4 a0_5 = some r) ∧ Aside0 (kq ≤ kj1) ∧ Aside0 (wc.heap[gb329]? = some (.cells #[.int .i64 a0_0, .int .i64 a0_1, .int .i64 a0_2, (.slice A0_3 l0_3.length c0_3), .string a0_4, .int .i64 a0_5] 26 (0, 0))) ∧ Aside0 (Below w.heap.size w wc))
    case first =>
     have H := HC16.out
     clear HC16
     by_cases c17 : a0_0 = 1
     ·rw [if_pos c17] at H
      have c17b0 : (a0_0 == 1) = true := beq_iff_eq.mpr c17
      have c17b1 : (a0_0 != 1) = false := bne_eq_false_iff_eq.mpr c17
      clear c17
      (skip)
      obtain ⟨t331, A180, H⟩ := Option.bind_eq_some_iff.mp H
      try dsimp only at H
      have A18 := Aside0.mk A180
      clear A180
      by_cases c19 : t331 = true
      ·subst c19
       have H1 : (ententeref13_Check.j1 kj1 false a0_0 a0_1 a0_2 l0_3 a0_4 a0_5) = some r := by rw [if_pos rfl] at H; exact H
       clear H
       have H := H1
       clear H1
       have H' := Aside0.mk H
       clear H
       obtain ⟨hcz20_0, hcz20_1, hcz20_2, hcz20_3, hcz20_4, hcz20_5⟩ := bc6 BK329.out
       obtain ⟨hfz20_0, hfz20_1, hfz20_2, hfz20_3, hfz20_4, hfz20_5⟩ := bf6 BK329.out
       go_wp2_with (first | (go_at_call 29; (with_reducible refine (ententeref06_Name.calls kj1 a0_4 true _ A18.out).mono ?_); rintro e w' ⟨rfl, ⟨nd, rfl⟩⟩))
       go_meet
       case rel => exact ⟨_, (false), (by rfl), H', ⟨by have := HJ1.out; omega⟩, ⟨by refine blk_drewN ?_ _; exact BK329.out⟩, ⟨pw_below_drewN HB.out _⟩⟩
      ·replace c19 := Bool.eq_false_iff.mpr c19
       subst c19
       have H1 : (ententeref13_Check.j1 kj1 true a0_0 a0_1 a0_2 l0_3 a0_4 a0_5) = some r := by rw [if_neg (show ¬ (false = true) by decide)] at H; exact H
       clear H
       have H := H1
       clear H1
       have H' := Aside0.mk H
       clear H
       obtain ⟨hcz21_0, hcz21_1, hcz21_2, hcz21_3, hcz21_4, hcz21_5⟩ := bc6 BK329.out
       obtain ⟨hfz21_0, hfz21_1, hfz21_2, hfz21_3, hfz21_4, hfz21_5⟩ := bf6 BK329.out
       go_wp2_with (first | (go_at_call 29; (with_reducible refine (ententeref06_Name.calls kj1 a0_4 false _ A18.out).mono ?_); rintro e w' ⟨rfl, ⟨nd, rfl⟩⟩))
       go_meet
       case rel => exact ⟨_, (true), (by rfl), H', ⟨by have := HJ1.out; omega⟩, ⟨by refine blk_drewN ?_ _; exact BK329.out⟩, ⟨pw_below_drewN HB.out _⟩⟩
     ·rw [if_neg c17] at H
      have c17b0 : (a0_0 == 1) = false := beq_eq_false_iff_ne.mpr c17
      have c17b1 : (a0_0 != 1) = true := bne_iff_ne.mpr c17
      (skip)
      have H' := Aside0.mk H
      clear H
      obtain ⟨hcz22_0, hcz22_1, hcz22_2, hcz22_3, hcz22_4, hcz22_5⟩ := bc6 BK329.out
      obtain ⟨hfz22_0, hfz22_1, hfz22_2, hfz22_3, hfz22_4, hfz22_5⟩ := bf6 BK329.out
      go_wp2
      go_meet
      case rel => exact ⟨_, ((a0_4.toList != ([] : List UInt8))), (by (simp; exact xt_emp _)), H', ⟨by have := HJ1.out; omega⟩, ⟨by exact BK329.out⟩, ⟨HB.out⟩⟩
    case rest =>
     clear HC16
     obtain ⟨kq, x42_15, rfl, HA, HJ15, BK329, HB⟩ := hcut
     cases kq with
     | zero => exact absurd HA.out (by simp [ententeref13_Check.j1])
     | succ kj15 =>
      have H := HA.out
      clear HA
      simp only [ententeref13_Check.j1] at H
      by_cases c23 : x42_15 = true
      ·subst c23
       have H1 : (some 130) = some r := by rw [if_pos rfl] at H; exact H
       clear H
       have H := H1
       clear H1
       obtain rfl := Option.some.inj H
       go_wp2
       go_ret
       exact ⟨by rfl, HB.out⟩
      ·replace c23 := Bool.eq_false_iff.mpr c23
       subst c23
       have H1 : (if a0_0 = 6 then (if a0_5 < 1 then (some 130) else (if a0_5 > 9 then (some 130) else (some 0))) else (if a0_5 = 0 then (some 0) else (some 130))) = some r := by rw [if_neg (show ¬ (false = true) by decide)] at H; exact H
       clear H
       have H := H1
       clear H1
       by_cases c24 : a0_0 = 6
       ·rw [if_pos c24] at H
        have c24b0 : (a0_0 == 6) = true := beq_iff_eq.mpr c24
        have c24b1 : (a0_0 != 6) = false := bne_eq_false_iff_eq.mpr c24
        clear c24
        by_cases c25 : a0_5 < 1
        ·rw [if_pos c25] at H
         have c25b0 : decide (a0_5 < 1) = true := decide_eq_true c25
         clear c25
         obtain rfl := Option.some.inj H
         obtain ⟨hcz26_0, hcz26_1, hcz26_2, hcz26_3, hcz26_4, hcz26_5⟩ := bc6 BK329.out
         obtain ⟨hfz26_0, hfz26_1, hfz26_2, hfz26_3, hfz26_4, hfz26_5⟩ := bf6 BK329.out
         go_wp2
         go_ret
         exact ⟨by rfl, HB.out⟩
        ·rw [if_neg c25] at H
         have c25b0 : decide (a0_5 < 1) = false := decide_eq_false c25
         clear c25
         by_cases c27 : a0_5 > 9
         ·rw [if_pos c27] at H
          have c27b0 : decide (9 < a0_5) = true := decide_eq_true c27
          clear c27
          obtain rfl := Option.some.inj H
          obtain ⟨hcz28_0, hcz28_1, hcz28_2, hcz28_3, hcz28_4, hcz28_5⟩ := bc6 BK329.out
          obtain ⟨hfz28_0, hfz28_1, hfz28_2, hfz28_3, hfz28_4, hfz28_5⟩ := bf6 BK329.out
          go_wp2
          go_ret
          exact ⟨by rfl, HB.out⟩
         ·rw [if_neg c27] at H
          have c27b0 : decide (9 < a0_5) = false := decide_eq_false c27
          clear c27
          obtain rfl := Option.some.inj H
          obtain ⟨hcz29_0, hcz29_1, hcz29_2, hcz29_3, hcz29_4, hcz29_5⟩ := bc6 BK329.out
          obtain ⟨hfz29_0, hfz29_1, hfz29_2, hfz29_3, hfz29_4, hfz29_5⟩ := bf6 BK329.out
          go_wp2
          go_ret
          exact ⟨by rfl, HB.out⟩
       ·rw [if_neg c24] at H
        have c24b0 : (a0_0 == 6) = false := beq_eq_false_iff_ne.mpr c24
        have c24b1 : (a0_0 != 6) = true := bne_iff_ne.mpr c24
        by_cases c30 : a0_5 = 0
        ·rw [if_pos c30] at H
         have c30b0 : (a0_5 == 0) = true := beq_iff_eq.mpr c30
         have c30b1 : (a0_5 != 0) = false := bne_eq_false_iff_eq.mpr c30
         clear c30
         obtain rfl := Option.some.inj H
         obtain ⟨hcz31_0, hcz31_1, hcz31_2, hcz31_3, hcz31_4, hcz31_5⟩ := bc6 BK329.out
         obtain ⟨hfz31_0, hfz31_1, hfz31_2, hfz31_3, hfz31_4, hfz31_5⟩ := bf6 BK329.out
         go_wp2
         go_ret
         exact ⟨by rfl, HB.out⟩
        ·rw [if_neg c30] at H
         have c30b0 : (a0_5 == 0) = false := beq_eq_false_iff_ne.mpr c30
         have c30b1 : (a0_5 != 0) = true := bne_iff_ne.mpr c30
         obtain rfl := Option.some.inj H
         obtain ⟨hcz32_0, hcz32_1, hcz32_2, hcz32_3, hcz32_4, hcz32_5⟩ := bc6 BK329.out
         obtain ⟨hfz32_0, hfz32_1, hfz32_2, hfz32_3, hfz32_4, hfz32_5⟩ := bf6 BK329.out
         go_wp2
         go_ret
         exact ⟨by rfl, HB.out⟩

/-! ### ententeref03_Path: function 21 -/
def ententeref03_Path.l0 : Nat → List Int → Int → Int → Int → List (S50) → Option (List Int)
 | 0, _, _, _, _, _ => none
 | k + 1, x3, x4, x333000, x333001, x333002 => if x4 < (x333002.length : Int) then (if 0 ≤ x4 then (if x3.length < 17592186044416 then (ententeref03_Path.l0 k (x3 ++ [(rd_T50 x333002 x4).f1]) (wrap64 (x4 + 1)) x333000 x333001 x333002) else (none)) else (none)) else (some x3)
def ententeref03_Path.f (k : Nat) (a0_0 : Int) (a0_1 : Int) (l0_2 : List (S50)) : Option (List Int) := (ententeref03_Check.f k a0_0 a0_1 l0_2).bind fun t333 => (if t333 = 0 then (ententeref03_Path.l0 k (([a0_0] : List Int)) 0 a0_0 a0_1 l0_2) else (some ([] : List Int)))
theorem ententeref03_Path.mono_l : ∀ k, (∀ y0 y1 y2 y3 y4, LeO (ententeref03_Path.l0 k y0 y1 y2 y3 y4) (ententeref03_Path.l0 (k + 1) y0 y1 y2 y3 y4))
 | 0 => fun _ _ _ _ _ r h => by simp [ententeref03_Path.l0] at h
 | k + 1 => by
  have ih0 := ententeref03_Path.mono_l k
  ·intro y0 y1 y2 y3 y4
   unfold ententeref03_Path.l0
   repeat' first
   | (with_reducible exact ih0 _ _ _ _ _)
   | (with_reducible exact ententeref03_Check.mono _ _ _ _)
   | (with_reducible exact LeO.refl _)
   | (with_reducible exact LeO.none _)
   | (with_reducible refine LeO.ite ?_ ?_)
   | (with_reducible refine LeO.bind ?_ (fun _ => ?_))
   | exact ih0 _ _ _ _ _
   | exact ententeref03_Check.mono _ _ _ _
   | exact LeO.none _
   | refine LeO.ite ?_ ?_
   | refine LeO.bind ?_ (fun _ => ?_)
theorem ententeref03_Path.mono : ∀ a0 a1 a2 k, LeO (ententeref03_Path.f k a0 a1 a2) (ententeref03_Path.f (k + 1) a0 a1 a2) := by
 intro a0 a1 a2 k
 have ih0 := ententeref03_Path.mono_l k
 unfold ententeref03_Path.f
 repeat' first
   | (with_reducible exact ih0 _ _ _ _ _)
   | (with_reducible exact ententeref03_Check.mono _ _ _ _)
   | (with_reducible exact LeO.refl _)
   | (with_reducible exact LeO.none _)
   | (with_reducible refine LeO.ite ?_ ?_)
   | (with_reducible refine LeO.bind ?_ (fun _ => ?_))
   | exact ih0 _ _ _ _ _
   | exact ententeref03_Check.mono _ _ _ _
   | exact LeO.none _
   | refine LeO.ite ?_ ?_
   | refine LeO.bind ?_ (fun _ => ?_)
set_option maxHeartbeats 8000000 in
set_option maxRecDepth 100000 in
theorem ententeref03_Path.calls (k : Nat) (a0_0 : Int) (a0_1 : Int) (A0_2 : Option Addr) (c0_2 : Nat) (l0_2 : List (S50)) (r : List Int) (w : World) (hr0_2 : Kd.C k50 w A0_2 l0_2.length l0_2) (hc0_2 : l0_2.length ≤ c0_2) (h : ententeref03_Path.f k a0_0 a0_1 l0_2 = some r) :
  Calls Tryd.prog 21 #[.agg #[.int .i64 a0_0, .int .i64 a0_1, .slice A0_2 l0_2.length c0_2]] w fun e w' => ∃ v0_ : Value, e = .returned (v0_) ∧ Kd.R (Kd.int .i64) 3 w' w.heap.size (fun _ => True) v0_ r ∧ Below w.heap.size w w' := by
 have hu24 := Tryd.underlying24
 have HR0_2 := Aside0.mk hr0_2
 have HC0_2 := Aside0.mk hc0_2
 clear hr0_2 hc0_2
 have HB := Aside0.mk (Below.refl w.heap.size w)
 have H : ((ententeref03_Check.f k a0_0 a0_1 l0_2).bind fun t333 => (if t333 = 0 then (ententeref03_Path.l0 k (([a0_0] : List Int)) 0 a0_0 a0_1 l0_2) else (some ([] : List Int)))) = some r := h
 clear h
 obtain ⟨t333, A20, H⟩ := Option.bind_eq_some_iff.mp H
 try dsimp only at H
 have A2 := Aside0.mk A20
 clear A20
 by_cases c3 : t333 = 0
 ·rw [if_pos c3] at H
  have c3b0 : (t333 == 0) = true := beq_iff_eq.mpr c3
  have c3b1 : (t333 != 0) = false := bne_eq_false_iff_eq.mpr c3
  clear c3
  obtain ⟨y334, hy334⟩ : ∃ y_ : List Int, y_ = (([a0_0] : List Int)) := ⟨_, rfl⟩
  replace H : (ententeref03_Path.l0 k y334 0 a0_0 a0_1 l0_2) = some r := by (rw [hy334]; with_reducible exact H)
  have Ny334 := Aside0.mk hy334
  clear hy334
  have H' := Aside0.mk H
  clear H
  go_enter Tryd.func21, Tryd.ntmps21
  go_wp2_with (first | ((with_reducible refine gate_dst (N := 1) rfl ?_); refine box_event ?hg (N := 1) ?hd (cs := #[.int .i64 a0_0, .int .i64 a0_1, .slice A0_2 l0_2.length c0_2]) (t := 24) ?hr ?_; (case hd => rfl); (case hg => rfl); (case hr => (go_simp; done)); intro gb332 hg w4 hbox hb; have BK332 := Aside0.mk (hbox); have GW332 := Aside0.mk ((by rw [hg]; exact (below_size (HB.out)) : w.heap.size ≤ gb332)); have GE332 := Aside0.mk ((by rw [hg]; exact (below_size (HB.out)) : w.heap.size ≤ gb332)); replace HB := Aside0.mk (below_step (HB.out) hb); clear hb hbox hg; obtain ⟨hcz5_0, hcz5_1, hcz5_2⟩ := bc3 BK332.out; obtain ⟨hfz5_0, hfz5_1, hfz5_2⟩ := bf3 BK332.out) | ((with_reducible refine gate_callee (f := 28) rfl ?_); refine goesL_ (some 6) rfl rfl Tryd.func28 (by kernel_rfl) rfl #[.agg #[.int .i64 a0_0, .int .i64 a0_1, .slice A0_2 l0_2.length c0_2]] rfl (by (try simp only [List.map_toArray, List.map_cons, List.map_nil]); rfl) ?_; (with_reducible refine (ententeref03_Check.calls k a0_0 a0_1 _ _ l0_2 t333 _ ?side1 ?side2 A2.out).mono ?_); (case side1 => exact (Kd.C_below HR0_2.out HB.out)); (case side2 => exact HC0_2.out); rintro e w6 ⟨rfl, hb⟩; refine ⟨_, rfl, ?_⟩; replace BK332 := Aside0.mk (blk_below BK332.out hb); replace HB := Aside0.mk (below_step (HB.out) hb); clear hb; obtain ⟨hcz7_0, hcz7_1, hcz7_2⟩ := bc3 BK332.out; obtain ⟨hfz7_0, hfz7_1, hfz7_2⟩ := bf3 BK332.out) | ((with_reducible refine gate_dst (N := 10) rfl ?_); refine Kd.R_lit (Kd.int .i64) _ 3 ?hg (N := 10) ?hd (xs := ([a0_0] : List Int)) (inner := [.int .i64 a0_0]) (ok := fun _ => True) (okp := fun _ => True) ?hr ?hp (fun _ hk => hk) trivial (Below.refl _ _) (Nat.le_refl _) (by simp) ?_; (case hd => rfl); (case hg => rfl); (case hr => (go_simp; done)); (case hp => exact (Reps.one (show Kd.M (Kd.int .i64) _ _ _ a0_0 [.int .i64 a0_0] from rfl) (Reps.none _ _))); intro v335 w8 ho9 hb hg_ hnew_; clear hg_ hnew_; (rw [← Ny334.out] at ho9); have HO336 := Aside0.mk (Kd.R_lower ho9 (below_size (HB.out))); replace BK332 := Aside0.mk (blk_below BK332.out hb); replace HB := Aside0.mk (below_step (HB.out) hb); clear hb ho9))
  go_loopg [3, 4] k (fun kq v3 v4 w' => ∃ (x3_1 : List Int) (x4_1 : Int), v4 = .int .i64 x4_1 ∧ Aside0 (ententeref03_Path.l0 kq x3_1 x4_1 a0_0 a0_1 l0_2 = some r) ∧ Aside0 (kq ≤ k) ∧ Aside0 (Kd.R (Kd.int .i64) 3 w' w.heap.size (fun _ => True) v3 x3_1) ∧ Aside0 (w'.heap[gb332]? = some (.cells #[.int .i64 a0_0, .int .i64 a0_1, (.slice A0_2 l0_2.length c0_2)] 24 (0, 0))) ∧ Aside0 (Below w.heap.size w w'))
  case atStart => exact ⟨(y334), (0), (by rfl), H', ⟨Nat.le_refl _⟩, ⟨by exact HO336.out⟩, ⟨by exact BK332.out⟩, ⟨HB.out⟩⟩
  case round =>
   clear H'
   clear c3b0 c3b1 hcz5_0 hcz5_1 hcz5_2 hcz7_0 hcz7_1 hcz7_2 hfz5_0 hfz5_1 hfz5_2 hfz7_0 hfz7_1 hfz7_2
   obtain ⟨x3_1, x4_1, rfl, HA, HK1, HO_3, BK332, HB⟩ := hrel
   cases gk with
   | zero => exact absurd HA.out (by simp [ententeref03_Path.l0])
   | succ k1 =>
    have H := HA.out
    clear HA
    simp only [ententeref03_Path.l0] at H
    by_cases c10 : x4_1 < (l0_2.length : Int)
    ·rw [if_pos c10] at H
     have c10b0 : decide (x4_1 < (l0_2.length : Int)) = true := decide_eq_true c10
     clear c10
     by_cases c11 : 0 ≤ x4_1
     ·rw [if_pos c11] at H
      have c11b0 : decide (0 ≤ x4_1) = true := decide_eq_true c11
      clear c11
      by_cases c12 : x3_1.length < 17592186044416
      ·rw [if_pos c12] at H
       have LMc12 := Aside0.mk c12
       clear c12
       obtain ⟨y338, hy338⟩ : ∃ y_ : List Int, y_ = (x3_1 ++ [(rd_T50 l0_2 x4_1).f1]) := ⟨_, rfl⟩
       replace H : (ententeref03_Path.l0 k1 y338 (wrap64 (x4_1 + 1)) a0_0 a0_1 l0_2) = some r := by (rw [hy338]; with_reducible exact H)
       have Ny338 := Aside0.mk hy338
       clear hy338
       have H' := Aside0.mk H
       clear H
       obtain ⟨hcz13_0, hcz13_1, hcz13_2⟩ := bc3 BK332.out
       obtain ⟨hfz13_0, hfz13_1, hfz13_2⟩ := bf3 BK332.out
       have p337 : 0 ≤ (x4_1 : Int) := of_decide_eq_true (by (with_reducible assumption))
       have q337 : x4_1 < (l0_2.length : Int) := of_decide_eq_true (by (with_reducible assumption))
       obtain ⟨ad337, e337, hx337_0, hx337_1⟩ := at_T50 HR0_2.out x4_1 p337 q337
       cases e337
       try replace hx337_0 := (HB.out.cell (World.block_lt_of_cell? w _ hx337_0)).trans hx337_0
       try replace hx337_1 := (HB.out.cell (World.block_lt_of_cell? w _ hx337_1)).trans hx337_1
       replace p337 := eq_true p337
       replace q337 := eq_true q337
       go_wp2_with (first | ((with_reducible refine gate_builtin (b := .append) (xs := #[.tmp 18, .tmp 25]) rfl ?_); at_builtin; refine Kd.R_append (Kd.int .i64) (w0 := w) w.heap.size rfl (.tmp 18) (.tmp 25) 46 3 (.int .i64 0) 8 rfl Tryd.underlying46 info3 rfl (by decide) (by omega) u3 x3_1 ((rd_T50 l0_2 x4_1).f1) [.int .i64 ((rd_T50 l0_2 x4_1).f1)] (fun _ => True) (fun _ => False) rfl rfl ?aP (fun _ hk => hk.elim) ?aF ?aO ?aB ?aS ?aL ?_; (case aP => exact rfl); (case aB => exact (HB.out)); (case aF => exact (fun _ _ => trivial)); (case aO => exact (by exact HO_3.out)); (case aS => exact (below_size (HB.out))); (case aL => have := LMc12.out; omega); intro v339 w14 ho hb hg hat; rw [← Ny338.out] at ho; replace BK332 := Aside0.mk (blk_grown BK332.out hg (Kd.R_ne HO_3.out BK332.out (by decide))); replace HB := Aside0.mk (hb); have HO340 := Aside0.mk (ho); clear HO_3; clear ho hb hg hat))
       go_roundg k1
       case measure => have := HK1.out; omega
       case rel => exact ⟨(y338), (wrap64 (x4_1 + 1)), (by rfl), H', ⟨by have := HK1.out; omega⟩, ⟨by exact HO340.out⟩, ⟨by exact BK332.out⟩, ⟨HB.out⟩⟩
      ·rw [if_neg c12] at H
       exact absurd H (by simp)
     ·rw [if_neg c11] at H
      exact absurd H (by simp)
    ·rw [if_neg c10] at H
     have c10b0 : decide (x4_1 < (l0_2.length : Int)) = false := decide_eq_false c10
     clear c10
     obtain rfl := Option.some.inj H
     obtain ⟨hcz15_0, hcz15_1, hcz15_2⟩ := bc3 BK332.out
     obtain ⟨hfz15_0, hfz15_1, hfz15_2⟩ := bf3 BK332.out
     go_wp2
     go_ret
     exact ⟨_, by rfl, by exact HO_3.out, HB.out⟩
 ·rw [if_neg c3] at H
  have c3b0 : (t333 == 0) = false := beq_eq_false_iff_ne.mpr c3
  have c3b1 : (t333 != 0) = true := bne_iff_ne.mpr c3
  obtain rfl := Option.some.inj H
  go_enter Tryd.func21, Tryd.ntmps21
  go_wp2_with (first | ((with_reducible refine gate_dst (N := 1) rfl ?_); refine box_event ?hg (N := 1) ?hd (cs := #[.int .i64 a0_0, .int .i64 a0_1, .slice A0_2 l0_2.length c0_2]) (t := 24) ?hr ?_; (case hd => rfl); (case hg => rfl); (case hr => (go_simp; done)); intro gb332 hg w16 hbox hb; have BK332 := Aside0.mk (hbox); have GW332 := Aside0.mk ((by rw [hg]; exact (below_size (HB.out)) : w.heap.size ≤ gb332)); have GE332 := Aside0.mk ((by rw [hg]; exact (below_size (HB.out)) : w.heap.size ≤ gb332)); replace HB := Aside0.mk (below_step (HB.out) hb); clear hb hbox hg; obtain ⟨hcz17_0, hcz17_1, hcz17_2⟩ := bc3 BK332.out; obtain ⟨hfz17_0, hfz17_1, hfz17_2⟩ := bf3 BK332.out) | ((with_reducible refine gate_callee (f := 28) rfl ?_); refine goesL_ (some 6) rfl rfl Tryd.func28 (by kernel_rfl) rfl #[.agg #[.int .i64 a0_0, .int .i64 a0_1, .slice A0_2 l0_2.length c0_2]] rfl (by (try simp only [List.map_toArray, List.map_cons, List.map_nil]); rfl) ?_; (with_reducible refine (ententeref03_Check.calls k a0_0 a0_1 _ _ l0_2 t333 _ ?side1 ?side2 A2.out).mono ?_); (case side1 => exact (Kd.C_below HR0_2.out HB.out)); (case side2 => exact HC0_2.out); rintro e w18 ⟨rfl, hb⟩; refine ⟨_, rfl, ?_⟩; replace BK332 := Aside0.mk (blk_below BK332.out hb); replace HB := Aside0.mk (below_step (HB.out) hb); clear hb))
  go_ret
  exact ⟨_, by rfl, by exact Kd.R_nil _ _ _ _ _, HB.out⟩

end Go.Proofs.YtlaeihdldofkcaaDoor.PN

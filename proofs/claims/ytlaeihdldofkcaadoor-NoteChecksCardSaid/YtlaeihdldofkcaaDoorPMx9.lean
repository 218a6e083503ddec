/- The machine side of this seat's laws: plain functions, and proofs that the calls do what they say; written by a program of this session over the translation; no conditions beyond those typed. -/
import Derived.Test.YtlaeihdldofkcaaDoorPMx0
import Derived.Test.YtlaeihdldofkcaaDoorPMx8
namespace Go.Proofs.YtlaeihdldofkcaaDoor.PN
open Go.RowKit Go.Proofs.YtlaeihdldofkcaaDoorW.PrintWords Go.Proofs.YtlaeihdldofkcaaDoorW.PrintLast Go.Proofs.YtlaeihdldofkcaaDoorW.PrintMore
attribute [local go_sem] max2_int min2_int max_two min_two max_three min_three max_four min_four   -- for this text's walks alone
set_option linter.unusedVariables false
set_option linter.unusedSimpArgs false

/-! ### ententeref03_Cmp: function 57 -/
mutual
def ententeref03_Cmp.l0 : Nat → Int → Int → Int → List (S50) → Int → Int → List (S50) → Option (Int)
 | 0, _, _, _, _, _, _, _ => none
 | k + 1, x5, x261000, x261001, x261002, x262000, x262001, x262002 => if x5 < (x261002.length : Int) then (ententeref03_Cmp.j1 k x5 (decide (x5 < (x262002.length : Int))) x261000 x261001 x261002 x262000 x262001 x262002) else (ententeref03_Cmp.j1 k x5 false x261000 x261001 x261002 x262000 x262001 x262002)
def ententeref03_Cmp.j1 : Nat → Int → Bool → Int → Int → List (S50) → Int → Int → List (S50) → Option (Int)
 | 0, _, _, _, _, _, _, _, _ => none
 | k + 1, x5, x39, x261000, x261001, x261002, x262000, x262001, x262002 => if x39 = true then (if 0 ≤ x5 then (if x5 < (x261002.length : Int) then (if x5 < (x262002.length : Int) then (if ((rd_T50 x261002 x5).f0) = ((rd_T50 x262002 x5).f0) then (if ((rd_T50 x261002 x5).f1) = ((rd_T50 x262002 x5).f1) then (ententeref03_Cmp.l0 k (wrap64 (x5 + 1)) x261000 x261001 x261002 x262000 x262001 x262002) else ((ententeref03_number.f ((rd_T50 x261002 x5).f1) ((rd_T50 x262002 x5).f1)).bind fun t270 => (some t270))) else ((ententeref03_number.f ((rd_T50 x261002 x5).f0) ((rd_T50 x262002 x5).f0)).bind fun t269 => (some t269))) else (none)) else (none)) else (none)) else ((ententeref03_number.f (x261002.length : Int) (x262002.length : Int)).bind fun t264 => (some t264))
end
def ententeref03_Cmp.f (k : Nat) (a0_0 : Int) (a0_1 : Int) (l0_2 : List (S50)) (a1_0 : Int) (a1_1 : Int) (l1_2 : List (S50)) : Option (Int) := if a0_0 = a1_0 then (if a0_1 = a1_1 then (ententeref03_Cmp.l0 k 0 a0_0 a0_1 l0_2 a1_0 a1_1 l1_2) else ((ententeref03_number.f a0_1 a1_1).bind fun t263 => (some t263))) else ((ententeref03_number.f a0_0 a1_0).bind fun t262 => (some t262))
theorem ententeref03_Cmp.mono_l : ∀ k, (∀ y0 y1 y2 y3 y4 y5 y6, LeO (ententeref03_Cmp.l0 k y0 y1 y2 y3 y4 y5 y6) (ententeref03_Cmp.l0 (k + 1) y0 y1 y2 y3 y4 y5 y6)) ∧ (∀ y0 y1 y2 y3 y4 y5 y6 y7, LeO (ententeref03_Cmp.j1 k y0 y1 y2 y3 y4 y5 y6 y7) (ententeref03_Cmp.j1 (k + 1) y0 y1 y2 y3 y4 y5 y6 y7))
 | 0 => ⟨fun _ _ _ _ _ _ _ r h => by simp [ententeref03_Cmp.l0] at h, fun _ _ _ _ _ _ _ _ r h => by simp [ententeref03_Cmp.j1] at h⟩
 | k + 1 => by
  obtain ⟨ih0, ih1⟩ := ententeref03_Cmp.mono_l k
  refine ⟨?_, ?_⟩
  ·intro y0 y1 y2 y3 y4 y5 y6
   unfold ententeref03_Cmp.l0
   repeat' first
   | (with_reducible exact ih0 _ _ _ _ _ _ _)
   | (with_reducible exact ih1 _ _ _ _ _ _ _ _)
   | (with_reducible exact LeO.refl _)
   | (with_reducible exact LeO.none _)
   | (with_reducible refine LeO.ite ?_ ?_)
   | (with_reducible refine LeO.bind ?_ (fun _ => ?_))
   | exact ih0 _ _ _ _ _ _ _
   | exact ih1 _ _ _ _ _ _ _ _
   | exact LeO.none _
   | refine LeO.ite ?_ ?_
   | refine LeO.bind ?_ (fun _ => ?_)
  ·intro y0 y1 y2 y3 y4 y5 y6 y7
   unfold ententeref03_Cmp.j1
   repeat' first
   | (with_reducible exact ih0 _ _ _ _ _ _ _)
   | (with_reducible exact ih1 _ _ _ _ _ _ _ _)
   | (with_reducible exact LeO.refl _)
   | (with_reducible exact LeO.none _)
   | (with_reducible refine LeO.ite ?_ ?_)
   | (with_reducible refine LeO.bind ?_ (fun _ => ?_))
   | exact ih0 _ _ _ _ _ _ _
   | exact ih1 _ _ _ _ _ _ _ _
   | exact LeO.none _
   | refine LeO.ite ?_ ?_
   | refine LeO.bind ?_ (fun _ => ?_)
theorem ententeref03_Cmp.mono : ∀ a0 a1 a2 a3 a4 a5 k, LeO (ententeref03_Cmp.f k a0 a1 a2 a3 a4 a5) (ententeref03_Cmp.f (k + 1) a0 a1 a2 a3 a4 a5) := by
 intro a0 a1 a2 a3 a4 a5 k
 obtain ⟨ih0, ih1⟩ := ententeref03_Cmp.mono_l k
 unfold ententeref03_Cmp.f
 repeat' first
   | (with_reducible exact ih0 _ _ _ _ _ _ _)
   | (with_reducible exact ih1 _ _ _ _ _ _ _ _)
   | (with_reducible exact LeO.refl _)
   | (with_reducible exact LeO.none _)
   | (with_reducible refine LeO.ite ?_ ?_)
   | (with_reducible refine LeO.bind ?_ (fun _ => ?_))
   | exact ih0 _ _ _ _ _ _ _
   | exact ih1 _ _ _ _ _ _ _ _
   | exact LeO.none _
   | refine LeO.ite ?_ ?_
   | refine LeO.bind ?_ (fun _ => ?_)
def ententeref03_Cmp.T8 : Bool × List (List Nat × List Nat) := (true, [([], []), ([0], [0]), ([], []), ([1, 2], [1, 2]), ([3], [3]), ([], []), ([5], [5]), ([], []), ([6, 7], [6, 7]), ([8], [8]), ([], []), ([], []), ([10, 4, 0, 1, 2, 3, 4, 10, 11], [4, 10]), ([11, 9, 12, 0, 1, 2, 3, 4, 5, 6, 7, 8, 9, 10, 11, 12], [9, 11])])
def ententeref03_Cmp.B8 : List Nat := [0, 1, 0, 7, 15, 0, 32, 0, 224, 480, 0, 0, 3103, 8191]
theorem ententeref03_Cmp.tab8 : rtab .any (opsOf Tryd.f57 8) = ententeref03_Cmp.T8 := by kernel_rfl
theorem ententeref03_Cmp.bits8 : waitsOk ententeref03_Cmp.T8.2 ententeref03_Cmp.B8 = true := by kernel_rfl
set_option maxHeartbeats 8000000 in
set_option maxRecDepth 100000 in
theorem ententeref03_Cmp.calls (k : Nat) (a0_0 : Int) (a0_1 : Int) (A0_2 : Option Addr) (c0_2 : Nat) (l0_2 : List (S50)) (a1_0 : Int) (a1_1 : Int) (A1_2 : Option Addr) (c1_2 : Nat) (l1_2 : List (S50)) (r : Int) (w : World) (hr0_2 : Kd.C k50 w A0_2 l0_2.length l0_2) (hc0_2 : l0_2.length ≤ c0_2) (hr1_2 : Kd.C k50 w A1_2 l1_2.length l1_2) (hc1_2 : l1_2.length ≤ c1_2) (h : ententeref03_Cmp.f k a0_0 a0_1 l0_2 a1_0 a1_1 l1_2 = some r) :
  Calls Tryd.prog 57 #[.agg #[.int .i64 a0_0, .int .i64 a0_1, .slice A0_2 l0_2.length c0_2], .agg #[.int .i64 a1_0, .int .i64 a1_1, .slice A1_2 l1_2.length c1_2]] w fun e w' => e = .returned (.int .i64 r) ∧ Below w.heap.size w w' := by
 have hu24 := Tryd.underlying24
 have hu50 := Tryd.underlying50
 have HR0_2 := Aside0.mk hr0_2
 have HC0_2 := Aside0.mk hc0_2
 clear hr0_2 hc0_2
 have HR1_2 := Aside0.mk hr1_2
 have HC1_2 := Aside0.mk hc1_2
 clear hr1_2 hc1_2
 have HB := Aside0.mk (Below.refl w.heap.size w)
 have H : (if a0_0 = a1_0 then (if a0_1 = a1_1 then (ententeref03_Cmp.l0 k 0 a0_0 a0_1 l0_2 a1_0 a1_1 l1_2) else ((ententeref03_number.f a0_1 a1_1).bind fun t263 => (some t263))) else ((ententeref03_number.f a0_0 a1_0).bind fun t262 => (some t262))) = some r := h
 clear h
 by_cases c3 : a0_0 = a1_0
 ·rw [if_pos c3] at H
  have c3b0 : (a0_0 == a1_0) = true := beq_iff_eq.mpr c3
  have c3b1 : (a0_0 != a1_0) = false := bne_eq_false_iff_eq.mpr c3
  clear c3
  by_cases c4 : a0_1 = a1_1
  ·rw [if_pos c4] at H
   have c4b0 : (a0_1 == a1_1) = true := beq_iff_eq.mpr c4
   have c4b1 : (a0_1 != a1_1) = false := bne_eq_false_iff_eq.mpr c4
   clear c4
   have H' := Aside0.mk H
   clear H
   go_enter Tryd.func57, Tryd.ntmps57
   go_wp2_with (first | ((with_reducible refine gate_dst (N := 2) rfl ?_); (try (refine gate_guard (by rfl) ?_; dsimp only)); refine box_event ?hg (N := 2) ?hd (cs := #[.int .i64 a0_0, .int .i64 a0_1, .slice A0_2 l0_2.length c0_2]) (t := 24) ?hr ?_; (case hd => rfl); (case hg => rfl); (case hr => (go_simp; done)); intro gb260 hg w5 hbox hb; have BK260 := Aside0.mk (hbox); have GW260 := Aside0.mk ((by rw [hg]; exact (below_size (HB.out)) : w.heap.size ≤ gb260)); have GE260 := Aside0.mk ((by rw [hg]; exact (below_size (HB.out)) : w.heap.size ≤ gb260)); replace HB := Aside0.mk (below_step (HB.out) hb); clear hb hbox hg) | ((with_reducible refine gate_dst (N := 3) rfl ?_); (try (refine gate_guard (by rfl) ?_; dsimp only)); refine box_event ?hg (N := 3) ?hd (cs := #[.int .i64 a1_0, .int .i64 a1_1, .slice A1_2 l1_2.length c1_2]) (t := 24) ?hr ?_; (case hd => rfl); (case hg => rfl); (case hr => (go_simp; done)); intro gb261 hg w6 hbox hb; have BK261 := Aside0.mk (hbox); have GW261 := Aside0.mk ((by rw [hg]; exact (below_size (HB.out)) : w.heap.size ≤ gb261)); have GE261 := Aside0.mk ((by rw [hg]; exact (below_size (HB.out)) : w.heap.size ≤ gb261)); replace HB := Aside0.mk (below_step (HB.out) hb); have NB260_261 := Aside0.mk ((by rw [hg]; exact Nat.ne_of_lt (blk_lt BK260.out) : gb260 ≠ gb261)); have NB261_260 := Aside0.mk ((by rw [hg]; exact Nat.ne_of_gt (blk_lt BK260.out) : gb261 ≠ gb260)); replace BK260 := Aside0.mk (blk_below BK260.out hb); clear hb hbox hg; have hnb7 := NB260_261.out; have hnc7 := NB261_260.out; obtain ⟨hcz8_0, hcz8_1, hcz8_2⟩ := bc3 BK260.out; obtain ⟨hfz8_0, hfz8_1, hfz8_2⟩ := bf3 BK260.out; obtain ⟨hcz9_0, hcz9_1, hcz9_2⟩ := bc3 BK261.out; obtain ⟨hfz9_0, hfz9_1, hfz9_2⟩ := bf3 BK261.out))
   go_loopg [5] k (fun kq v5 w' => ∃ (x5_1 : Int), v5 = .int .i64 x5_1 ∧ Aside0 (ententeref03_Cmp.l0 kq x5_1 a0_0 a0_1 l0_2 a1_0 a1_1 l1_2 = some r) ∧ Aside0 (kq ≤ k) ∧ Aside0 (w'.heap[gb260]? = some (.cells #[.int .i64 a0_0, .int .i64 a0_1, (.slice A0_2 l0_2.length c0_2)] 24 (0, 0))) ∧ Aside0 (w'.heap[gb261]? = some (.cells #[.int .i64 a1_0, .int .i64 a1_1, (.slice A1_2 l1_2.length c1_2)] 24 (0, 0))) ∧ Aside0 (Below w.heap.size w w'))
   case atStart => exact ⟨(0), (by rfl), H', ⟨Nat.le_refl _⟩, ⟨by exact BK260.out⟩, ⟨by exact BK261.out⟩, ⟨HB.out⟩⟩
   case round =>
    clear H'
    clear c3b0 c3b1 c4b0 c4b1 hcz8_0 hcz8_1 hcz8_2 hcz9_0 hcz9_1 hcz9_2 hfz8_0 hfz8_1 hfz8_2 hfz9_0 hfz9_1 hfz9_2
    obtain ⟨x5_1, rfl, HA, HK1, BK260, BK261, HB⟩ := hrel
    cases gk with
    | zero => exact absurd HA.out (by simp [ententeref03_Cmp.l0])
    | succ k1 =>
     have H := HA.out
     clear HA
     simp only [ententeref03_Cmp.l0] at H
     have HC10 := Aside0.mk H
     clear H
     go_upto_region 6 with (fail)
     go_cut [39] (fun v39 wc => ∃ (kq : Nat) (x39_9 : Bool), v39 = .bool x39_9 ∧ Aside0 (ententeref03_Cmp.j1 kq x5_1 x39_9 a0_0 a0_1 l0_2 a1_0 a1_1 l1_2 = some r) ∧ Aside0 (kq ≤ k1) ∧ Aside0 (wc.heap[gb260]? = some (.cells #[.int .i64 a0_0, .int .i64 a0_1, (.slice A0_2 l0_2.length c0_2)] 24 (0, 0))) ∧ Aside0 (wc.heap[gb261]? = some (.cells #[.int .i64 a1_0, .int .i64 a1_1, (.slice A1_2 l1_2.length c1_2)] 24 (0, 0))) ∧ Aside0 (Below w.heap.size w wc))
     case first =>
      have H := HC10.out
      clear HC10
      by_cases c11 : x5_1 < (l0_2.length : Int)
      ·rw [if_pos c11] at H
       have c11b0 : decide (x5_1 < (l0_2.length : Int)) = true := decide_eq_true c11
       clear c11
       (skip)
       have H' := Aside0.mk H
       clear H
       have hnb12 := NB260_261.out
       have hnc12 := NB261_260.out
       obtain ⟨hcz13_0, hcz13_1, hcz13_2⟩ := bc3 BK260.out
       obtain ⟨hfz13_0, hfz13_1, hfz13_2⟩ := bf3 BK260.out
       obtain ⟨hcz14_0, hcz14_1, hcz14_2⟩ := bc3 BK261.out
       obtain ⟨hfz14_0, hfz14_1, hfz14_2⟩ := bf3 BK261.out
       go_wp2
       go_meet
       case rel => exact ⟨_, (decide (x5_1 < (l1_2.length : Int))), (by rfl), H', ⟨by have := HK1.out; omega⟩, ⟨by exact BK260.out⟩, ⟨by exact BK261.out⟩, ⟨HB.out⟩⟩
      ·rw [if_neg c11] at H
       have c11b0 : decide (x5_1 < (l0_2.length : Int)) = false := decide_eq_false c11
       clear c11
       (skip)
       have H' := Aside0.mk H
       clear H
       have hnb15 := NB260_261.out
       have hnc15 := NB261_260.out
       obtain ⟨hcz16_0, hcz16_1, hcz16_2⟩ := bc3 BK260.out
       obtain ⟨hfz16_0, hfz16_1, hfz16_2⟩ := bf3 BK260.out
       go_wp2
       go_meet
       case rel => exact ⟨_, (false), (by rfl), H', ⟨by have := HK1.out; omega⟩, ⟨by exact BK260.out⟩, ⟨by exact BK261.out⟩, ⟨HB.out⟩⟩
     case rest =>
      clear HC10
      obtain ⟨kq, x39_9, rfl, HA, HJ9, BK260, BK261, HB⟩ := hcut
      cases kq with
      | zero => exact absurd HA.out (by simp [ententeref03_Cmp.j1])
      | succ kj9 =>
       have H := HA.out
       clear HA
       simp only [ententeref03_Cmp.j1] at H
       by_cases c17 : x39_9 = true
       ·subst c17
        have H1 : (if 0 ≤ x5_1 then (if x5_1 < (l0_2.length : Int) then (if x5_1 < (l1_2.length : Int) then (if ((rd_T50 l0_2 x5_1).f0) = ((rd_T50 l1_2 x5_1).f0) then (if ((rd_T50 l0_2 x5_1).f1) = ((rd_T50 l1_2 x5_1).f1) then (ententeref03_Cmp.l0 kj9 (wrap64 (x5_1 + 1)) a0_0 a0_1 l0_2 a1_0 a1_1 l1_2) else ((ententeref03_number.f ((rd_T50 l0_2 x5_1).f1) ((rd_T50 l1_2 x5_1).f1)).bind fun t270 => (some t270))) else ((ententeref03_number.f ((rd_T50 l0_2 x5_1).f0) ((rd_T50 l1_2 x5_1).f0)).bind fun t269 => (some t269))) else (none)) else (none)) else (none)) = some r := by rw [if_pos rfl] at H; exact H
        clear H
        have H := H1
        clear H1
        by_cases c18 : 0 ≤ x5_1
        ·rw [if_pos c18] at H
         have c18b0 : decide (0 ≤ x5_1) = true := decide_eq_true c18
         clear c18
         by_cases c19 : x5_1 < (l0_2.length : Int)
         ·rw [if_pos c19] at H
          have c19b0 : decide (x5_1 < (l0_2.length : Int)) = true := decide_eq_true c19
          clear c19
          by_cases c20 : x5_1 < (l1_2.length : Int)
          ·rw [if_pos c20] at H
           have c20b0 : decide (x5_1 < (l1_2.length : Int)) = true := decide_eq_true c20
           clear c20
           have HZ2_ := Aside0.mk H
           clear H
           try go_wp2
           have n0_ := Aside0.mk (blk_drew BK260.out)
           have n1_ := Aside0.mk (blk_drew BK261.out)
           have n2_ := Aside0.mk (below_drew1 HB.out)
           clear BK260 BK261 HB
           have BK260 := n0_
           have BK261 := n1_
           have HB := n2_
           clear n0_ n1_ n2_
           have p265 : 0 ≤ (x5_1 : Int) := of_decide_eq_true (by (with_reducible assumption))
           have q265 : x5_1 < (l0_2.length : Int) := of_decide_eq_true (by (with_reducible assumption))
           obtain ⟨ad265, e265, hx265_0, hx265_1⟩ := at_T50 HR0_2.out x5_1 p265 q265
           have hw265_1 := hx265_1
           have hw265_0 := hx265_0
           cases e265
           try replace hx265_0 := (HB.out.cell (World.block_lt_of_cell? w _ hx265_0)).trans hx265_0
           try replace hx265_1 := (HB.out.cell (World.block_lt_of_cell? w _ hx265_1)).trans hx265_1
           replace p265 := eq_true p265
           replace q265 := eq_true q265
           have p266 : 0 ≤ (x5_1 : Int) := of_decide_eq_true (by (with_reducible assumption))
           have q266 : x5_1 < (l1_2.length : Int) := of_decide_eq_true (by (with_reducible assumption))
           obtain ⟨ad266, e266, hx266_0, hx266_1⟩ := at_T50 HR1_2.out x5_1 p266 q266
           have hw266_1 := hx266_1
           have hw266_0 := hx266_0
           cases e266
           try replace hx266_0 := (HB.out.cell (World.block_lt_of_cell? w _ hx266_0)).trans hx266_0
           try replace hx266_1 := (HB.out.cell (World.block_lt_of_cell? w _ hx266_1)).trans hx266_1
           replace p266 := eq_true p266
           replace q266 := eq_true q266
           refine start_ (n := 14) (S := fun w' => w'.cell? ⟨gb260, 0, none⟩ = some (.int .i64 a0_0) ∧ w'.cell? ⟨gb260, 1, none⟩ = some (.int .i64 a0_1) ∧ w'.cell? ⟨gb260, 2, none⟩ = some (.slice (some ad265) l0_2.length c0_2) ∧ w'.cell? ⟨gb261, 0, none⟩ = some (.int .i64 a1_0) ∧ w'.cell? ⟨gb261, 1, none⟩ = some (.int .i64 a1_1) ∧ w'.cell? ⟨gb261, 2, none⟩ = some (.slice (some ad266) l1_2.length c1_2) ∧ w'.cell? (ad265.add ((x5_1).toNat * 2)) = some (.int .i64 ((rd_T50 l0_2 x5_1).f0)) ∧ w'.cell? ⟨(ad265.add ((x5_1).toNat * 2)).block, (ad265.add ((x5_1).toNat * 2)).off + 1, none⟩ = some (.int .i64 ((rd_T50 l0_2 x5_1).f1)) ∧ w'.cell? (ad266.add ((x5_1).toNat * 2)) = some (.int .i64 ((rd_T50 l1_2 x5_1).f0)) ∧ w'.cell? ⟨(ad266.add ((x5_1).toNat * 2)).block, (ad266.add ((x5_1).toNat * 2)).off + 1, none⟩ = some (.int .i64 ((rd_T50 l1_2 x5_1).f1))) (ds := []) #[false, false, false, false, false, false, false, false, false, false, false, false, false, false] (by kernel_rfl) rfl rfl ⟨(blk_cell BK260.out 0).trans rfl, (blk_cell BK260.out 1).trans rfl, (blk_cell BK260.out 2).trans rfl, (blk_cell BK261.out 0).trans rfl, (blk_cell BK261.out 1).trans rfl, (blk_cell BK261.out 2).trans rfl, ((HB.out.cell (World.block_lt_of_cell? w _ hw265_0)).trans hw265_0), ((HB.out.cell (World.block_lt_of_cell? w _ hw265_1)).trans hw265_1), ((HB.out.cell (World.block_lt_of_cell? w _ hw266_0)).trans hw266_0), ((HB.out.cell (World.block_lt_of_cell? w _ hw266_1)).trans hw266_1)⟩ (fun hHeld => ?_); refine with_tabW ententeref03_Cmp.tab8 ententeref03_Cmp.bits8 (fun HT_ HW_ => ?_)
           generalize wc.drew = w23 at BK260 BK261 HB hx265_0 hx265_1 hx266_0 hx266_1 hHeld ⊢
           refine pure_ (i := 0) (N := some 42) (v := ?_) (a' := ?_) #[true, false, false, false, false, false, false, false, false, false, false, false, false, false] rfl rfl (any_of HT_.out (by kernel_rfl)) (fun _ _ _ h => h) (Or.inl ⟨by rfl, ?_⟩) ?_ ?_
           rotate_left
           ·intro w'
            go_simp
            with_reducible rfl
           rotate_left
           ·simp only [Act.put, List.setIfInBounds_toArray, List.set_cons_zero, List.set_cons_succ, i64_w, i32_w]
            rfl
           refine pure_ (i := 2) (N := some 44) (v := ?_) (a' := ?_) #[true, false, true, false, false, false, false, false, false, false, false, false, false, false] rfl rfl (any_of HT_.out (by kernel_rfl)) (fun _ _ _ h => h) (Or.inl ⟨by rfl, ?_⟩) ?_ ?_
           rotate_left
           ·intro w'
            go_simp
            with_reducible rfl
           rotate_left
           ·simp only [Act.put, List.setIfInBounds_toArray, List.set_cons_zero, List.set_cons_succ, i64_w, i32_w]
            rfl
           refine pure_ (i := 5) (N := some 47) (v := ?_) (a' := ?_) #[true, false, true, false, false, true, false, false, false, false, false, false, false, false] rfl rfl (any_of HT_.out (by kernel_rfl)) (fun _ _ _ h => h) (Or.inl ⟨by rfl, ?_⟩) ?_ ?_
           rotate_left
           ·intro w'
            go_simp
            with_reducible rfl
           rotate_left
           ·simp only [Act.put, List.setIfInBounds_toArray, List.set_cons_zero, List.set_cons_succ, i64_w, i32_w]
            rfl
           refine pure_ (i := 7) (N := some 49) (v := ?_) (a' := ?_) #[true, false, true, false, false, true, false, true, false, false, false, false, false, false] rfl rfl (any_of HT_.out (by kernel_rfl)) (fun _ _ _ h => h) (Or.inl ⟨by rfl, ?_⟩) ?_ ?_
           rotate_left
           ·intro w'
            go_simp
            with_reducible rfl
           rotate_left
           ·simp only [Act.put, List.setIfInBounds_toArray, List.set_cons_zero, List.set_cons_succ, i64_w, i32_w]
            rfl
           refine take_ (i := 1) (N := some 43) (v := ?_) (a' := ?_) #[true, true, true, false, false, true, false, true, false, false, false, false, false, false] rfl rfl (take_ofW HT_.out HW_.out (by kernel_rfl)) (fun _ _ _ h => h) (Or.inl ⟨by rfl, ?_⟩) hHeld ?_ ?_
           rotate_left
           ·rintro w' ⟨s0, s1, s2, s3, s4, s5, s6, s7, s8, s9⟩
            go_simp
            with_reducible rfl
           rotate_left
           ·simp only [Act.put, List.setIfInBounds_toArray, List.set_cons_zero, List.set_cons_succ, i64_w, i32_w]
            rfl
           refine pure_ (i := 3) (N := some 45) (v := ?_) (a' := ?_) #[true, true, true, true, false, true, false, true, false, false, false, false, false, false] rfl rfl (any_of HT_.out (by kernel_rfl)) (fun _ _ _ h => h) (Or.inl ⟨by rfl, ?_⟩) ?_ ?_
           rotate_left
           ·intro w'
            go_simp
            with_reducible rfl
           rotate_left
           ·simp only [Act.put, List.setIfInBounds_toArray, List.set_cons_zero, List.set_cons_succ, i64_w, i32_w]
            rfl
           refine take_ (i := 4) (N := some 46) (v := ?_) (a' := ?_) #[true, true, true, true, true, true, false, true, false, false, false, false, false, false] rfl rfl (take_ofW HT_.out HW_.out (by kernel_rfl)) (fun _ _ _ h => h) (Or.inl ⟨by rfl, ?_⟩) hHeld ?_ ?_
           rotate_left
           ·rintro w' ⟨s0, s1, s2, s3, s4, s5, s6, s7, s8, s9⟩
            go_simp
            with_reducible rfl
           rotate_left
           ·simp only [Act.put, List.setIfInBounds_toArray, List.set_cons_zero, List.set_cons_succ, i64_w, i32_w]
            rfl
           refine take_ (i := 6) (N := some 48) (v := ?_) (a' := ?_) #[true, true, true, true, true, true, true, true, false, false, false, false, false, false] rfl rfl (take_ofW HT_.out HW_.out (by kernel_rfl)) (fun _ _ _ h => h) (Or.inl ⟨by rfl, ?_⟩) hHeld ?_ ?_
           rotate_left
           ·rintro w' ⟨s0, s1, s2, s3, s4, s5, s6, s7, s8, s9⟩
            go_simp
            with_reducible rfl
           rotate_left
           ·simp only [Act.put, List.setIfInBounds_toArray, List.set_cons_zero, List.set_cons_succ, i64_w, i32_w]
            rfl
           refine pure_ (i := 8) (N := some 50) (v := ?_) (a' := ?_) #[true, true, true, true, true, true, true, true, true, false, false, false, false, false] rfl rfl (any_of HT_.out (by kernel_rfl)) (fun _ _ _ h => h) (Or.inl ⟨by rfl, ?_⟩) ?_ ?_
           rotate_left
           ·intro w'
            go_simp
            with_reducible rfl
           rotate_left
           ·simp only [Act.put, List.setIfInBounds_toArray, List.set_cons_zero, List.set_cons_succ, i64_w, i32_w]
            rfl
           refine take_ (i := 9) (N := some 51) (v := ?_) (a' := ?_) #[true, true, true, true, true, true, true, true, true, true, false, false, false, false] rfl rfl (take_ofW HT_.out HW_.out (by kernel_rfl)) (fun _ _ _ h => h) (Or.inl ⟨by rfl, ?_⟩) hHeld ?_ ?_
           rotate_left
           ·rintro w' ⟨s0, s1, s2, s3, s4, s5, s6, s7, s8, s9⟩
            go_simp
            with_reducible rfl
           rotate_left
           ·simp only [Act.put, List.setIfInBounds_toArray, List.set_cons_zero, List.set_cons_succ, i64_w, i32_w]
            rfl
           refine join_ (σ := Nat × Nat) 2 #[true, true, true, true, true, true, true, true, true, true, true, true, false, false] (fun s_ => [(6, .pointer (some ⟨s_.1, 0, none⟩)), (7, .pointer (some ⟨s_.2, 0, none⟩))]) (fun s_ w' => (w'.cell? ⟨gb260, 0, none⟩ = some (.int .i64 a0_0) ∧ w'.cell? ⟨gb260, 1, none⟩ = some (.int .i64 a0_1) ∧ w'.cell? ⟨gb260, 2, none⟩ = some (.slice (some ad265) l0_2.length c0_2) ∧ w'.cell? ⟨gb261, 0, none⟩ = some (.int .i64 a1_0) ∧ w'.cell? ⟨gb261, 1, none⟩ = some (.int .i64 a1_1) ∧ w'.cell? ⟨gb261, 2, none⟩ = some (.slice (some ad266) l1_2.length c1_2) ∧ w'.cell? (ad265.add ((x5_1).toNat * 2)) = some (.int .i64 ((rd_T50 l0_2 x5_1).f0)) ∧ w'.cell? ⟨(ad265.add ((x5_1).toNat * 2)).block, (ad265.add ((x5_1).toNat * 2)).off + 1, none⟩ = some (.int .i64 ((rd_T50 l0_2 x5_1).f1)) ∧ w'.cell? (ad266.add ((x5_1).toNat * 2)) = some (.int .i64 ((rd_T50 l1_2 x5_1).f0)) ∧ w'.cell? ⟨(ad266.add ((x5_1).toNat * 2)).block, (ad266.add ((x5_1).toNat * 2)).off + 1, none⟩ = some (.int .i64 ((rd_T50 l1_2 x5_1).f1))) ∧ (w'.heap[gb260]? = some (.cells #[.int .i64 a0_0, .int .i64 a0_1, .slice (some ad265) l0_2.length c0_2] 24 (0, 0))) ∧ (w'.heap[gb261]? = some (.cells #[.int .i64 a1_0, .int .i64 a1_1, .slice (some ad266) l1_2.length c1_2] 24 (0, 0))) ∧ (w'.heap[s_.1]? = some (.cells #[.int .i64 0, .int .i64 0] 50 (0, 0))) ∧ (w'.heap[s_.2]? = some (.cells #[.int .i64 0, .int .i64 0] 50 (0, 0))) ∧ (w.heap.size ≤ s_.1) ∧ (w.heap.size ≤ s_.1) ∧ (gb260 ≠ s_.1) ∧ (s_.1 ≠ gb260) ∧ (gb261 ≠ s_.1) ∧ (s_.1 ≠ gb261) ∧ (s_.2 ≠ s_.1) ∧ (s_.1 ≠ s_.2) ∧ (w.heap.size ≤ s_.2) ∧ (w.heap.size ≤ s_.2) ∧ (gb260 ≠ s_.2) ∧ (s_.2 ≠ gb260) ∧ (gb261 ≠ s_.2) ∧ (s_.2 ≠ gb261) ∧ (Below w.heap.size w w')) ?_ ?_
           rotate_left
           ·intro hCont
            refine two_ (i := 10) (j := 11) (Ni := some 6) (Nj := some 7) #[true, true, true, true, true, true, true, true, true, true, true, false, false, false] #[true, true, true, true, true, true, true, true, true, true, false, true, false, false] rfl rfl rfl rfl (two_of HT_.out (by kernel_rfl)) (by decide) (by decide) (fun K hK => ?_) (fun K hK => ?_)
            ·skip
             refine box_step ?hg (N := 6) ?hd (cs := #[.int .i64 0, .int .i64 0]) (t := 50) ?hr ?_; (case hd => rfl); (case hg => rfl); (case hr => (go_simp; done))
             intro gb267 hg w24 hbox hb
             have n0_ := Aside0.mk (blk_below BK260.out hb)
             have n1_ := Aside0.mk (blk_below BK261.out hb)
             have n2_ := Aside0.mk (below_step (HB.out) hb)
             have n3_ := Aside0.mk (hbox)
             have n4_ := Aside0.mk ((by rw [hg]; exact (below_size (HB.out)) : w.heap.size ≤ gb267))
             have n5_ := Aside0.mk ((by rw [hg]; exact (below_size (HB.out)) : w.heap.size ≤ gb267))
             have n6_ := Aside0.mk ((by rw [hg]; exact Nat.ne_of_lt (blk_lt BK260.out) : gb260 ≠ gb267))
             have n7_ := Aside0.mk ((by rw [hg]; exact Nat.ne_of_gt (blk_lt BK260.out) : gb267 ≠ gb260))
             have n8_ := Aside0.mk ((by rw [hg]; exact Nat.ne_of_lt (blk_lt BK261.out) : gb261 ≠ gb267))
             have n9_ := Aside0.mk ((by rw [hg]; exact Nat.ne_of_gt (blk_lt BK261.out) : gb267 ≠ gb261))
             clear BK260 BK261 HB
             have BK260 := n0_
             have BK261 := n1_
             have HB := n2_
             have BK267 := n3_
             have GW267 := n4_
             have GE267 := n5_
             have NB260_267 := n6_
             have NB267_260 := n7_
             have NB261_267 := n8_
             have NB267_261 := n9_
             clear n0_ n1_ n2_ n3_ n4_ n5_ n6_ n7_ n8_ n9_
             clear hb hbox hg
             refine hK.out _ _ ⟨(blk_cell BK260.out 0).trans rfl, (blk_cell BK260.out 1).trans rfl, (blk_cell BK260.out 2).trans rfl, (blk_cell BK261.out 0).trans rfl, (blk_cell BK261.out 1).trans rfl, (blk_cell BK261.out 2).trans rfl, ((HB.out.cell (World.block_lt_of_cell? w _ hw265_0)).trans hw265_0), ((HB.out.cell (World.block_lt_of_cell? w _ hw265_1)).trans hw265_1), ((HB.out.cell (World.block_lt_of_cell? w _ hw266_0)).trans hw266_0), ((HB.out.cell (World.block_lt_of_cell? w _ hw266_1)).trans hw266_1)⟩ (fun hHeld => ?_)
             clear hK K
             refine norm_ (a' := ?_) ?_ ?_
             rotate_left
             ·show Act.put _ (some 6) _ = _
              simp only [Act.put, List.setIfInBounds_toArray, List.set_cons_zero, List.set_cons_succ, i64_w, i32_w]
              rfl
             refine one_ (i := 11) (N := some 7) #[true, true, true, true, true, true, true, true, true, true, true, true, false, false] rfl rfl (one_of HT_.out (by kernel_rfl)) (by decide) (fun K hK => ?_)
             refine box_step ?hg (N := 7) ?hd (cs := #[.int .i64 0, .int .i64 0]) (t := 50) ?hr ?_; (case hd => rfl); (case hg => rfl); (case hr => (go_simp; done))
             intro gb268 hg w25 hbox hb
             have n0_ := Aside0.mk (blk_below BK260.out hb)
             have n1_ := Aside0.mk (blk_below BK261.out hb)
             have n2_ := Aside0.mk (blk_below BK267.out hb)
             have n3_ := Aside0.mk (below_step (HB.out) hb)
             have n4_ := Aside0.mk (hbox)
             have n5_ := Aside0.mk ((by rw [hg]; exact (below_size (HB.out)) : w.heap.size ≤ gb268))
             have n6_ := Aside0.mk ((by rw [hg]; exact (below_size (HB.out)) : w.heap.size ≤ gb268))
             have n7_ := Aside0.mk ((by rw [hg]; exact Nat.ne_of_lt (blk_lt BK260.out) : gb260 ≠ gb268))
             have n8_ := Aside0.mk ((by rw [hg]; exact Nat.ne_of_gt (blk_lt BK260.out) : gb268 ≠ gb260))
             have n9_ := Aside0.mk ((by rw [hg]; exact Nat.ne_of_lt (blk_lt BK261.out) : gb261 ≠ gb268))
             have n10_ := Aside0.mk ((by rw [hg]; exact Nat.ne_of_gt (blk_lt BK261.out) : gb268 ≠ gb261))
             have n11_ := Aside0.mk ((by rw [hg]; exact Nat.ne_of_lt (blk_lt BK267.out) : gb267 ≠ gb268))
             have n12_ := Aside0.mk ((by rw [hg]; exact Nat.ne_of_gt (blk_lt BK267.out) : gb268 ≠ gb267))
             clear BK260 BK261 BK267 HB
             have BK260 := n0_
             have BK261 := n1_
             have BK267 := n2_
             have HB := n3_
             have BK268 := n4_
             have GW268 := n5_
             have GE268 := n6_
             have NB260_268 := n7_
             have NB268_260 := n8_
             have NB261_268 := n9_
             have NB268_261 := n10_
             have NB267_268 := n11_
             have NB268_267 := n12_
             clear n0_ n1_ n2_ n3_ n4_ n5_ n6_ n7_ n8_ n9_ n10_ n11_ n12_
             clear hb hbox hg
             refine hK.out _ _ ⟨(blk_cell BK260.out 0).trans rfl, (blk_cell BK260.out 1).trans rfl, (blk_cell BK260.out 2).trans rfl, (blk_cell BK261.out 0).trans rfl, (blk_cell BK261.out 1).trans rfl, (blk_cell BK261.out 2).trans rfl, ((HB.out.cell (World.block_lt_of_cell? w _ hw265_0)).trans hw265_0), ((HB.out.cell (World.block_lt_of_cell? w _ hw265_1)).trans hw265_1), ((HB.out.cell (World.block_lt_of_cell? w _ hw266_0)).trans hw266_0), ((HB.out.cell (World.block_lt_of_cell? w _ hw266_1)).trans hw266_1)⟩ (fun hHeld => ?_)
             clear hK K
             refine norm_ (a' := ?_) ?_ ?_
             rotate_left
             ·show Act.put _ (some 7) _ = _
              simp only [Act.put, List.setIfInBounds_toArray, List.set_cons_zero, List.set_cons_succ, i64_w, i32_w]
              rfl
             exact norm_ (by simp only [putAll, Act.put, List.setIfInBounds_toArray, List.set_cons_zero, List.set_cons_succ]) (hCont (gb267, gb268) _ ⟨hHeld, (by exact BK260.out), (by exact BK261.out), (by exact BK267.out), (by exact BK268.out), GW267.out, GE267.out, NB260_267.out, NB267_260.out, NB261_267.out, NB267_261.out, NB268_267.out, NB267_268.out, GW268.out, GE268.out, NB260_268.out, NB268_260.out, NB261_268.out, NB268_261.out, (HB.out)⟩)
            ·skip
             refine box_step ?hg (N := 7) ?hd (cs := #[.int .i64 0, .int .i64 0]) (t := 50) ?hr ?_; (case hd => rfl); (case hg => rfl); (case hr => (go_simp; done))
             intro gb268 hg w24 hbox hb
             have n0_ := Aside0.mk (blk_below BK260.out hb)
             have n1_ := Aside0.mk (blk_below BK261.out hb)
             have n2_ := Aside0.mk (below_step (HB.out) hb)
             have n3_ := Aside0.mk (hbox)
             have n4_ := Aside0.mk ((by rw [hg]; exact (below_size (HB.out)) : w.heap.size ≤ gb268))
             have n5_ := Aside0.mk ((by rw [hg]; exact (below_size (HB.out)) : w.heap.size ≤ gb268))
             have n6_ := Aside0.mk ((by rw [hg]; exact Nat.ne_of_lt (blk_lt BK260.out) : gb260 ≠ gb268))
             have n7_ := Aside0.mk ((by rw [hg]; exact Nat.ne_of_gt (blk_lt BK260.out) : gb268 ≠ gb260))
             have n8_ := Aside0.mk ((by rw [hg]; exact Nat.ne_of_lt (blk_lt BK261.out) : gb261 ≠ gb268))
             have n9_ := Aside0.mk ((by rw [hg]; exact Nat.ne_of_gt (blk_lt BK261.out) : gb268 ≠ gb261))
             clear BK260 BK261 HB
             have BK260 := n0_
             have BK261 := n1_
             have HB := n2_
             have BK268 := n3_
             have GW268 := n4_
             have GE268 := n5_
             have NB260_268 := n6_
             have NB268_260 := n7_
             have NB261_268 := n8_
             have NB268_261 := n9_
             clear n0_ n1_ n2_ n3_ n4_ n5_ n6_ n7_ n8_ n9_
             clear hb hbox hg
             refine hK.out _ _ ⟨(blk_cell BK260.out 0).trans rfl, (blk_cell BK260.out 1).trans rfl, (blk_cell BK260.out 2).trans rfl, (blk_cell BK261.out 0).trans rfl, (blk_cell BK261.out 1).trans rfl, (blk_cell BK261.out 2).trans rfl, ((HB.out.cell (World.block_lt_of_cell? w _ hw265_0)).trans hw265_0), ((HB.out.cell (World.block_lt_of_cell? w _ hw265_1)).trans hw265_1), ((HB.out.cell (World.block_lt_of_cell? w _ hw266_0)).trans hw266_0), ((HB.out.cell (World.block_lt_of_cell? w _ hw266_1)).trans hw266_1)⟩ (fun hHeld => ?_)
             clear hK K
             refine norm_ (a' := ?_) ?_ ?_
             rotate_left
             ·show Act.put _ (some 7) _ = _
              simp only [Act.put, List.setIfInBounds_toArray, List.set_cons_zero, List.set_cons_succ, i64_w, i32_w]
              rfl
             refine one_ (i := 10) (N := some 6) #[true, true, true, true, true, true, true, true, true, true, true, true, false, false] rfl rfl (one_of HT_.out (by kernel_rfl)) (by decide) (fun K hK => ?_)
             refine box_step ?hg (N := 6) ?hd (cs := #[.int .i64 0, .int .i64 0]) (t := 50) ?hr ?_; (case hd => rfl); (case hg => rfl); (case hr => (go_simp; done))
             intro gb267 hg w25 hbox hb
             have n0_ := Aside0.mk (blk_below BK260.out hb)
             have n1_ := Aside0.mk (blk_below BK261.out hb)
             have n2_ := Aside0.mk (blk_below BK268.out hb)
             have n3_ := Aside0.mk (below_step (HB.out) hb)
             have n4_ := Aside0.mk (hbox)
             have n5_ := Aside0.mk ((by rw [hg]; exact (below_size (HB.out)) : w.heap.size ≤ gb267))
             have n6_ := Aside0.mk ((by rw [hg]; exact (below_size (HB.out)) : w.heap.size ≤ gb267))
             have n7_ := Aside0.mk ((by rw [hg]; exact Nat.ne_of_lt (blk_lt BK260.out) : gb260 ≠ gb267))
             have n8_ := Aside0.mk ((by rw [hg]; exact Nat.ne_of_gt (blk_lt BK260.out) : gb267 ≠ gb260))
             have n9_ := Aside0.mk ((by rw [hg]; exact Nat.ne_of_lt (blk_lt BK261.out) : gb261 ≠ gb267))
             have n10_ := Aside0.mk ((by rw [hg]; exact Nat.ne_of_gt (blk_lt BK261.out) : gb267 ≠ gb261))
             have n11_ := Aside0.mk ((by rw [hg]; exact Nat.ne_of_lt (blk_lt BK268.out) : gb268 ≠ gb267))
             have n12_ := Aside0.mk ((by rw [hg]; exact Nat.ne_of_gt (blk_lt BK268.out) : gb267 ≠ gb268))
             clear BK260 BK261 BK268 HB
             have BK260 := n0_
             have BK261 := n1_
             have BK268 := n2_
             have HB := n3_
             have BK267 := n4_
             have GW267 := n5_
             have GE267 := n6_
             have NB260_267 := n7_
             have NB267_260 := n8_
             have NB261_267 := n9_
             have NB267_261 := n10_
             have NB268_267 := n11_
             have NB267_268 := n12_
             clear n0_ n1_ n2_ n3_ n4_ n5_ n6_ n7_ n8_ n9_ n10_ n11_ n12_
             clear hb hbox hg
             refine hK.out _ _ ⟨(blk_cell BK260.out 0).trans rfl, (blk_cell BK260.out 1).trans rfl, (blk_cell BK260.out 2).trans rfl, (blk_cell BK261.out 0).trans rfl, (blk_cell BK261.out 1).trans rfl, (blk_cell BK261.out 2).trans rfl, ((HB.out.cell (World.block_lt_of_cell? w _ hw265_0)).trans hw265_0), ((HB.out.cell (World.block_lt_of_cell? w _ hw265_1)).trans hw265_1), ((HB.out.cell (World.block_lt_of_cell? w _ hw266_0)).trans hw266_0), ((HB.out.cell (World.block_lt_of_cell? w _ hw266_1)).trans hw266_1)⟩ (fun hHeld => ?_)
             clear hK K
             refine norm_ (a' := ?_) ?_ ?_
             rotate_left
             ·show Act.put _ (some 6) _ = _
              simp only [Act.put, List.setIfInBounds_toArray, List.set_cons_zero, List.set_cons_succ, i64_w, i32_w]
              rfl
             exact norm_ (by simp only [putAll, Act.put, List.setIfInBounds_toArray, List.set_cons_zero, List.set_cons_succ]) (hCont (gb267, gb268) _ ⟨hHeld, (by exact BK260.out), (by exact BK261.out), (by exact BK267.out), (by exact BK268.out), GW267.out, GE267.out, NB260_267.out, NB267_260.out, NB261_267.out, NB267_261.out, NB268_267.out, NB267_268.out, GW268.out, GE268.out, NB260_268.out, NB268_260.out, NB261_268.out, NB268_261.out, (HB.out)⟩)
           rintro ⟨gb267, gb268⟩ w26 ⟨hS_, h0_, h1_, h2_, h3_, h4_, h5_, h6_, h7_, h8_, h9_, h10_, h11_, h12_, h13_, h14_, h15_, h16_, h17_, h18_⟩
           have n0_ : Aside0 (w26.heap[gb260]? = some (.cells #[.int .i64 a0_0, .int .i64 a0_1, .slice (some ad265) l0_2.length c0_2] 24 (0, 0))) := ⟨h0_⟩
           have n1_ : Aside0 (w26.heap[gb261]? = some (.cells #[.int .i64 a1_0, .int .i64 a1_1, .slice (some ad266) l1_2.length c1_2] 24 (0, 0))) := ⟨h1_⟩
           have n2_ : Aside0 (w26.heap[gb267]? = some (.cells #[.int .i64 0, .int .i64 0] 50 (0, 0))) := ⟨h2_⟩
           have n3_ : Aside0 (w26.heap[gb268]? = some (.cells #[.int .i64 0, .int .i64 0] 50 (0, 0))) := ⟨h3_⟩
           have n4_ : Aside0 (w.heap.size ≤ gb267) := ⟨h4_⟩
           have n5_ : Aside0 (w.heap.size ≤ gb267) := ⟨h5_⟩
           have n6_ : Aside0 (gb260 ≠ gb267) := ⟨h6_⟩
           have n7_ : Aside0 (gb267 ≠ gb260) := ⟨h7_⟩
           have n8_ : Aside0 (gb261 ≠ gb267) := ⟨h8_⟩
           have n9_ : Aside0 (gb267 ≠ gb261) := ⟨h9_⟩
           have n10_ : Aside0 (gb268 ≠ gb267) := ⟨h10_⟩
           have n11_ : Aside0 (gb267 ≠ gb268) := ⟨h11_⟩
           have n12_ : Aside0 (w.heap.size ≤ gb268) := ⟨h12_⟩
           have n13_ : Aside0 (w.heap.size ≤ gb268) := ⟨h13_⟩
           have n14_ : Aside0 (gb260 ≠ gb268) := ⟨h14_⟩
           have n15_ : Aside0 (gb268 ≠ gb260) := ⟨h15_⟩
           have n16_ : Aside0 (gb261 ≠ gb268) := ⟨h16_⟩
           have n17_ : Aside0 (gb268 ≠ gb261) := ⟨h17_⟩
           have n18_ : Aside0 (Below w.heap.size w w26) := ⟨h18_⟩
           clear BK260 BK261 HB
           clear h0_ h1_ h2_ h3_ h4_ h5_ h6_ h7_ h8_ h9_ h10_ h11_ h12_ h13_ h14_ h15_ h16_ h17_ h18_
           have BK260 := n0_
           have BK261 := n1_
           have BK267 := n2_
           have BK268 := n3_
           have GW267 := n4_
           have GE267 := n5_
           have NB260_267 := n6_
           have NB267_260 := n7_
           have NB261_267 := n8_
           have NB267_261 := n9_
           have NB268_267 := n10_
           have NB267_268 := n11_
           have GW268 := n12_
           have GE268 := n13_
           have NB260_268 := n14_
           have NB268_260 := n15_
           have NB261_268 := n16_
           have NB268_261 := n17_
           have HB := n18_
           clear n0_ n1_ n2_ n3_ n4_ n5_ n6_ n7_ n8_ n9_ n10_ n11_ n12_ n13_ n14_ n15_ n16_ n17_ n18_
           have hHeld : w26.cell? ⟨gb260, 0, none⟩ = some (.int .i64 a0_0) ∧ w26.cell? ⟨gb260, 1, none⟩ = some (.int .i64 a0_1) ∧ w26.cell? ⟨gb260, 2, none⟩ = some (.slice (some ad265) l0_2.length c0_2) ∧ w26.cell? ⟨gb261, 0, none⟩ = some (.int .i64 a1_0) ∧ w26.cell? ⟨gb261, 1, none⟩ = some (.int .i64 a1_1) ∧ w26.cell? ⟨gb261, 2, none⟩ = some (.slice (some ad266) l1_2.length c1_2) ∧ w26.cell? (ad265.add ((x5_1).toNat * 2)) = some (.int .i64 ((rd_T50 l0_2 x5_1).f0)) ∧ w26.cell? ⟨(ad265.add ((x5_1).toNat * 2)).block, (ad265.add ((x5_1).toNat * 2)).off + 1, none⟩ = some (.int .i64 ((rd_T50 l0_2 x5_1).f1)) ∧ w26.cell? (ad266.add ((x5_1).toNat * 2)) = some (.int .i64 ((rd_T50 l1_2 x5_1).f0)) ∧ w26.cell? ⟨(ad266.add ((x5_1).toNat * 2)).block, (ad266.add ((x5_1).toNat * 2)).off + 1, none⟩ = some (.int .i64 ((rd_T50 l1_2 x5_1).f1)) := hS_
           refine norm_ (a' := ?_) ?_ ?_
           rotate_left
           ·simp only [putAll, Act.put, List.setIfInBounds_toArray, List.set_cons_zero, List.set_cons_succ]
            rfl
           refine one_ (i := 12) (N := none) #[true, true, true, true, true, true, true, true, true, true, true, true, true, false] rfl rfl (one_of HT_.out (by kernel_rfl)) (by decide) (fun K hK => ?_)
           have hs27 : w26.cell? ⟨gb267, 0, none⟩ = some (.int .i64 0) := (blk_cell BK267.out 0).trans rfl
           have hfs27 := blk_frozen BK267.out 0
           have hns27_0 := NB260_267.out
           have hns27_1 := NB261_267.out
           have hns27_3 := NB268_267.out
           have hms27_0 := NB267_260.out
           have hms27_1 := NB267_261.out
           have hms27_3 := NB267_268.out
           have hs28 : w26.cell? ⟨gb267, 1, none⟩ = some (.int .i64 0) := (blk_cell BK267.out 1).trans rfl
           have hfs28 := blk_frozen BK267.out 1
           have hns28_0 := NB260_267.out
           have hns28_1 := NB261_267.out
           have hns28_3 := NB268_267.out
           have hms28_0 := NB267_260.out
           have hms28_1 := NB267_261.out
           have hms28_3 := NB267_268.out
           refine skip_ (w1 := ?_) (by rfl) rfl ?_ ?_
           rotate_left
           ·go_simp
            rfl
           refine hK.out _ _ ⟨((cell_far (p := ⟨gb267, _, none⟩) NB260_267.out _).trans (((cell_far (p := ⟨gb267, _, none⟩) NB260_267.out _).trans (hHeld.1)))), ((cell_far (p := ⟨gb267, _, none⟩) NB260_267.out _).trans (((cell_far (p := ⟨gb267, _, none⟩) NB260_267.out _).trans (hHeld.2.1)))), ((cell_far (p := ⟨gb267, _, none⟩) NB260_267.out _).trans (((cell_far (p := ⟨gb267, _, none⟩) NB260_267.out _).trans (hHeld.2.2.1)))), ((cell_far (p := ⟨gb267, _, none⟩) NB261_267.out _).trans (((cell_far (p := ⟨gb267, _, none⟩) NB261_267.out _).trans (hHeld.2.2.2.1)))), ((cell_far (p := ⟨gb267, _, none⟩) NB261_267.out _).trans (((cell_far (p := ⟨gb267, _, none⟩) NB261_267.out _).trans (hHeld.2.2.2.2.1)))), ((cell_far (p := ⟨gb267, _, none⟩) NB261_267.out _).trans (((cell_far (p := ⟨gb267, _, none⟩) NB261_267.out _).trans (hHeld.2.2.2.2.2.1)))), ((cell_far (p := ⟨gb267, _, none⟩) (by first | exact Nat.ne_of_lt (Nat.lt_of_lt_of_le (by have := World.block_lt_of_cell? _ _ hw265_0; exact this) GW267.out) | (rw [add_block]; exact Nat.ne_of_lt (Nat.lt_of_lt_of_le (by have := World.block_lt_of_cell? _ _ hw265_0; first | rwa [add_block] at this | exact this) GW267.out)) | (show (Addr.add _ _).block ≠ _; rw [add_block]; exact Nat.ne_of_lt (Nat.lt_of_lt_of_le (by have := World.block_lt_of_cell? _ _ hw265_0; first | rwa [add_block] at this | exact this) GW267.out)) | (dsimp only; exact Nat.ne_of_lt (Nat.lt_of_lt_of_le (by have := World.block_lt_of_cell? _ _ hw265_0; first | rwa [add_block] at this | exact this) GW267.out))) _).trans (((cell_far (p := ⟨gb267, _, none⟩) (by first | exact Nat.ne_of_lt (Nat.lt_of_lt_of_le (by have := World.block_lt_of_cell? _ _ hw265_0; exact this) GW267.out) | (rw [add_block]; exact Nat.ne_of_lt (Nat.lt_of_lt_of_le (by have := World.block_lt_of_cell? _ _ hw265_0; first | rwa [add_block] at this | exact this) GW267.out)) | (show (Addr.add _ _).block ≠ _; rw [add_block]; exact Nat.ne_of_lt (Nat.lt_of_lt_of_le (by have := World.block_lt_of_cell? _ _ hw265_0; first | rwa [add_block] at this | exact this) GW267.out)) | (dsimp only; exact Nat.ne_of_lt (Nat.lt_of_lt_of_le (by have := World.block_lt_of_cell? _ _ hw265_0; first | rwa [add_block] at this | exact this) GW267.out))) _).trans (hHeld.2.2.2.2.2.2.1)))), ((cell_far (p := ⟨gb267, _, none⟩) (by first | exact Nat.ne_of_lt (Nat.lt_of_lt_of_le (by have := World.block_lt_of_cell? _ _ hw265_1; exact this) GW267.out) | (rw [add_block]; exact Nat.ne_of_lt (Nat.lt_of_lt_of_le (by have := World.block_lt_of_cell? _ _ hw265_1; first | rwa [add_block] at this | exact this) GW267.out)) | (show (Addr.add _ _).block ≠ _; rw [add_block]; exact Nat.ne_of_lt (Nat.lt_of_lt_of_le (by have := World.block_lt_of_cell? _ _ hw265_1; first | rwa [add_block] at this | exact this) GW267.out)) | (dsimp only; exact Nat.ne_of_lt (Nat.lt_of_lt_of_le (by have := World.block_lt_of_cell? _ _ hw265_1; first | rwa [add_block] at this | exact this) GW267.out))) _).trans (((cell_far (p := ⟨gb267, _, none⟩) (by first | exact Nat.ne_of_lt (Nat.lt_of_lt_of_le (by have := World.block_lt_of_cell? _ _ hw265_1; exact this) GW267.out) | (rw [add_block]; exact Nat.ne_of_lt (Nat.lt_of_lt_of_le (by have := World.block_lt_of_cell? _ _ hw265_1; first | rwa [add_block] at this | exact this) GW267.out)) | (show (Addr.add _ _).block ≠ _; rw [add_block]; exact Nat.ne_of_lt (Nat.lt_of_lt_of_le (by have := World.block_lt_of_cell? _ _ hw265_1; first | rwa [add_block] at this | exact this) GW267.out)) | (dsimp only; exact Nat.ne_of_lt (Nat.lt_of_lt_of_le (by have := World.block_lt_of_cell? _ _ hw265_1; first | rwa [add_block] at this | exact this) GW267.out))) _).trans (hHeld.2.2.2.2.2.2.2.1)))), ((cell_far (p := ⟨gb267, _, none⟩) (by first | exact Nat.ne_of_lt (Nat.lt_of_lt_of_le (by have := World.block_lt_of_cell? _ _ hw266_0; exact this) GW267.out) | (rw [add_block]; exact Nat.ne_of_lt (Nat.lt_of_lt_of_le (by have := World.block_lt_of_cell? _ _ hw266_0; first | rwa [add_block] at this | exact this) GW267.out)) | (show (Addr.add _ _).block ≠ _; rw [add_block]; exact Nat.ne_of_lt (Nat.lt_of_lt_of_le (by have := World.block_lt_of_cell? _ _ hw266_0; first | rwa [add_block] at this | exact this) GW267.out)) | (dsimp only; exact Nat.ne_of_lt (Nat.lt_of_lt_of_le (by have := World.block_lt_of_cell? _ _ hw266_0; first | rwa [add_block] at this | exact this) GW267.out))) _).trans (((cell_far (p := ⟨gb267, _, none⟩) (by first | exact Nat.ne_of_lt (Nat.lt_of_lt_of_le (by have := World.block_lt_of_cell? _ _ hw266_0; exact this) GW267.out) | (rw [add_block]; exact Nat.ne_of_lt (Nat.lt_of_lt_of_le (by have := World.block_lt_of_cell? _ _ hw266_0; first | rwa [add_block] at this | exact this) GW267.out)) | (show (Addr.add _ _).block ≠ _; rw [add_block]; exact Nat.ne_of_lt (Nat.lt_of_lt_of_le (by have := World.block_lt_of_cell? _ _ hw266_0; first | rwa [add_block] at this | exact this) GW267.out)) | (dsimp only; exact Nat.ne_of_lt (Nat.lt_of_lt_of_le (by have := World.block_lt_of_cell? _ _ hw266_0; first | rwa [add_block] at this | exact this) GW267.out))) _).trans (hHeld.2.2.2.2.2.2.2.2.1)))), ((cell_far (p := ⟨gb267, _, none⟩) (by first | exact Nat.ne_of_lt (Nat.lt_of_lt_of_le (by have := World.block_lt_of_cell? _ _ hw266_1; exact this) GW267.out) | (rw [add_block]; exact Nat.ne_of_lt (Nat.lt_of_lt_of_le (by have := World.block_lt_of_cell? _ _ hw266_1; first | rwa [add_block] at this | exact this) GW267.out)) | (show (Addr.add _ _).block ≠ _; rw [add_block]; exact Nat.ne_of_lt (Nat.lt_of_lt_of_le (by have := World.block_lt_of_cell? _ _ hw266_1; first | rwa [add_block] at this | exact this) GW267.out)) | (dsimp only; exact Nat.ne_of_lt (Nat.lt_of_lt_of_le (by have := World.block_lt_of_cell? _ _ hw266_1; first | rwa [add_block] at this | exact this) GW267.out))) _).trans (((cell_far (p := ⟨gb267, _, none⟩) (by first | exact Nat.ne_of_lt (Nat.lt_of_lt_of_le (by have := World.block_lt_of_cell? _ _ hw266_1; exact this) GW267.out) | (rw [add_block]; exact Nat.ne_of_lt (Nat.lt_of_lt_of_le (by have := World.block_lt_of_cell? _ _ hw266_1; first | rwa [add_block] at this | exact this) GW267.out)) | (show (Addr.add _ _).block ≠ _; rw [add_block]; exact Nat.ne_of_lt (Nat.lt_of_lt_of_le (by have := World.block_lt_of_cell? _ _ hw266_1; first | rwa [add_block] at this | exact this) GW267.out)) | (dsimp only; exact Nat.ne_of_lt (Nat.lt_of_lt_of_le (by have := World.block_lt_of_cell? _ _ hw266_1; first | rwa [add_block] at this | exact this) GW267.out))) _).trans (hHeld.2.2.2.2.2.2.2.2.2))))⟩ (fun hHeld => ?_)
           clear hK K
           refine one_ (i := 13) (N := none) #[true, true, true, true, true, true, true, true, true, true, true, true, true, true] rfl rfl (one_of HT_.out (by kernel_rfl)) (by decide) (fun K hK => ?_)
           have hs29 : w26.cell? ⟨gb268, 0, none⟩ = some (.int .i64 0) := (blk_cell BK268.out 0).trans rfl
           have hfs29 := blk_frozen BK268.out 0
           have hns29_0 := NB260_268.out
           have hns29_1 := NB261_268.out
           have hns29_2 := NB267_268.out
           have hms29_0 := NB268_260.out
           have hms29_1 := NB268_261.out
           have hms29_2 := NB268_267.out
           have hs30 : w26.cell? ⟨gb268, 1, none⟩ = some (.int .i64 0) := (blk_cell BK268.out 1).trans rfl
           have hfs30 := blk_frozen BK268.out 1
           have hns30_0 := NB260_268.out
           have hns30_1 := NB261_268.out
           have hns30_2 := NB267_268.out
           have hms30_0 := NB268_260.out
           have hms30_1 := NB268_261.out
           have hms30_2 := NB268_267.out
           refine skip_ (w1 := ?_) (by rfl) rfl ?_ ?_
           rotate_left
           ·go_simp
            rfl
           refine hK.out _ _ ⟨((cell_far (p := ⟨gb268, _, none⟩) NB260_268.out _).trans (((cell_far (p := ⟨gb268, _, none⟩) NB260_268.out _).trans (hHeld.1)))), ((cell_far (p := ⟨gb268, _, none⟩) NB260_268.out _).trans (((cell_far (p := ⟨gb268, _, none⟩) NB260_268.out _).trans (hHeld.2.1)))), ((cell_far (p := ⟨gb268, _, none⟩) NB260_268.out _).trans (((cell_far (p := ⟨gb268, _, none⟩) NB260_268.out _).trans (hHeld.2.2.1)))), ((cell_far (p := ⟨gb268, _, none⟩) NB261_268.out _).trans (((cell_far (p := ⟨gb268, _, none⟩) NB261_268.out _).trans (hHeld.2.2.2.1)))), ((cell_far (p := ⟨gb268, _, none⟩) NB261_268.out _).trans (((cell_far (p := ⟨gb268, _, none⟩) NB261_268.out _).trans (hHeld.2.2.2.2.1)))), ((cell_far (p := ⟨gb268, _, none⟩) NB261_268.out _).trans (((cell_far (p := ⟨gb268, _, none⟩) NB261_268.out _).trans (hHeld.2.2.2.2.2.1)))), ((cell_far (p := ⟨gb268, _, none⟩) (by first | exact Nat.ne_of_lt (Nat.lt_of_lt_of_le (by have := World.block_lt_of_cell? _ _ hw265_0; exact this) GW268.out) | (rw [add_block]; exact Nat.ne_of_lt (Nat.lt_of_lt_of_le (by have := World.block_lt_of_cell? _ _ hw265_0; first | rwa [add_block] at this | exact this) GW268.out)) | (show (Addr.add _ _).block ≠ _; rw [add_block]; exact Nat.ne_of_lt (Nat.lt_of_lt_of_le (by have := World.block_lt_of_cell? _ _ hw265_0; first | rwa [add_block] at this | exact this) GW268.out)) | (dsimp only; exact Nat.ne_of_lt (Nat.lt_of_lt_of_le (by have := World.block_lt_of_cell? _ _ hw265_0; first | rwa [add_block] at this | exact this) GW268.out))) _).trans (((cell_far (p := ⟨gb268, _, none⟩) (by first | exact Nat.ne_of_lt (Nat.lt_of_lt_of_le (by have := World.block_lt_of_cell? _ _ hw265_0; exact this) GW268.out) | (rw [add_block]; exact Nat.ne_of_lt (Nat.lt_of_lt_of_le (by have := World.block_lt_of_cell? _ _ hw265_0; first | rwa [add_block] at this | exact this) GW268.out)) | (show (Addr.add _ _).block ≠ _; rw [add_block]; exact Nat.ne_of_lt (Nat.lt_of_lt_of_le (by have := World.block_lt_of_cell? _ _ hw265_0; first | rwa [add_block] at this | exact this) GW268.out)) | (dsimp only; exact Nat.ne_of_lt (Nat.lt_of_lt_of_le (by have := World.block_lt_of_cell? _ _ hw265_0; first | rwa [add_block] at this | exact this) GW268.out))) _).trans (hHeld.2.2.2.2.2.2.1)))), ((cell_far (p := ⟨gb268, _, none⟩) (by first | exact Nat.ne_of_lt (Nat.lt_of_lt_of_le (by have := World.block_lt_of_cell? _ _ hw265_1; exact this) GW268.out) | (rw [add_block]; exact Nat.ne_of_lt (Nat.lt_of_lt_of_le (by have := World.block_lt_of_cell? _ _ hw265_1; first | rwa [add_block] at this | exact this) GW268.out)) | (show (Addr.add _ _).block ≠ _; rw [add_block]; exact Nat.ne_of_lt (Nat.lt_of_lt_of_le (by have := World.block_lt_of_cell? _ _ hw265_1; first | rwa [add_block] at this | exact this) GW268.out)) | (dsimp only; exact Nat.ne_of_lt (Nat.lt_of_lt_of_le (by have := World.block_lt_of_cell? _ _ hw265_1; first | rwa [add_block] at this | exact this) GW268.out))) _).trans (((cell_far (p := ⟨gb268, _, none⟩) (by first | exact Nat.ne_of_lt (Nat.lt_of_lt_of_le (by have := World.block_lt_of_cell? _ _ hw265_1; exact this) GW268.out) | (rw [add_block]; exact Nat.ne_of_lt (Nat.lt_of_lt_of_le (by have := World.block_lt_of_cell? _ _ hw265_1; first | rwa [add_block] at this | exact this) GW268.out)) | (show (Addr.add _ _).block ≠ _; rw [add_block]; exact Nat.ne_of_lt (Nat.lt_of_lt_of_le (by have := World.block_lt_of_cell? _ _ hw265_1; first | rwa [add_block] at this | exact this) GW268.out)) | (dsimp only; exact Nat.ne_of_lt (Nat.lt_of_lt_of_le (by have := World.block_lt_of_cell? _ _ hw265_1; first | rwa [add_block] at this | exact this) GW268.out))) _).trans (hHeld.2.2.2.2.2.2.2.1)))), ((cell_far (p := ⟨gb268, _, none⟩) (by first | exact Nat.ne_of_lt (Nat.lt_of_lt_of_le (by have := World.block_lt_of_cell? _ _ hw266_0; exact this) GW268.out) | (rw [add_block]; exact Nat.ne_of_lt (Nat.lt_of_lt_of_le (by have := World.block_lt_of_cell? _ _ hw266_0; first | rwa [add_block] at this | exact this) GW268.out)) | (show (Addr.add _ _).block ≠ _; rw [add_block]; exact Nat.ne_of_lt (Nat.lt_of_lt_of_le (by have := World.block_lt_of_cell? _ _ hw266_0; first | rwa [add_block] at this | exact this) GW268.out)) | (dsimp only; exact Nat.ne_of_lt (Nat.lt_of_lt_of_le (by have := World.block_lt_of_cell? _ _ hw266_0; first | rwa [add_block] at this | exact this) GW268.out))) _).trans (((cell_far (p := ⟨gb268, _, none⟩) (by first | exact Nat.ne_of_lt (Nat.lt_of_lt_of_le (by have := World.block_lt_of_cell? _ _ hw266_0; exact this) GW268.out) | (rw [add_block]; exact Nat.ne_of_lt (Nat.lt_of_lt_of_le (by have := World.block_lt_of_cell? _ _ hw266_0; first | rwa [add_block] at this | exact this) GW268.out)) | (show (Addr.add _ _).block ≠ _; rw [add_block]; exact Nat.ne_of_lt (Nat.lt_of_lt_of_le (by have := World.block_lt_of_cell? _ _ hw266_0; first | rwa [add_block] at this | exact this) GW268.out)) | (dsimp only; exact Nat.ne_of_lt (Nat.lt_of_lt_of_le (by have := World.block_lt_of_cell? _ _ hw266_0; first | rwa [add_block] at this | exact this) GW268.out))) _).trans (hHeld.2.2.2.2.2.2.2.2.1)))), ((cell_far (p := ⟨gb268, _, none⟩) (by first | exact Nat.ne_of_lt (Nat.lt_of_lt_of_le (by have := World.block_lt_of_cell? _ _ hw266_1; exact this) GW268.out) | (rw [add_block]; exact Nat.ne_of_lt (Nat.lt_of_lt_of_le (by have := World.block_lt_of_cell? _ _ hw266_1; first | rwa [add_block] at this | exact this) GW268.out)) | (show (Addr.add _ _).block ≠ _; rw [add_block]; exact Nat.ne_of_lt (Nat.lt_of_lt_of_le (by have := World.block_lt_of_cell? _ _ hw266_1; first | rwa [add_block] at this | exact this) GW268.out)) | (dsimp only; exact Nat.ne_of_lt (Nat.lt_of_lt_of_le (by have := World.block_lt_of_cell? _ _ hw266_1; first | rwa [add_block] at this | exact this) GW268.out))) _).trans (((cell_far (p := ⟨gb268, _, none⟩) (by first | exact Nat.ne_of_lt (Nat.lt_of_lt_of_le (by have := World.block_lt_of_cell? _ _ hw266_1; exact this) GW268.out) | (rw [add_block]; exact Nat.ne_of_lt (Nat.lt_of_lt_of_le (by have := World.block_lt_of_cell? _ _ hw266_1; first | rwa [add_block] at this | exact this) GW268.out)) | (show (Addr.add _ _).block ≠ _; rw [add_block]; exact Nat.ne_of_lt (Nat.lt_of_lt_of_le (by have := World.block_lt_of_cell? _ _ hw266_1; first | rwa [add_block] at this | exact this) GW268.out)) | (dsimp only; exact Nat.ne_of_lt (Nat.lt_of_lt_of_le (by have := World.block_lt_of_cell? _ _ hw266_1; first | rwa [add_block] at this | exact this) GW268.out))) _).trans (hHeld.2.2.2.2.2.2.2.2.2))))⟩ (fun hHeld => ?_)
           clear hK K
           refine done_ (done_of HT_.out (by kernel_rfl)) ?_
           have H := HZ2_.out
           clear HZ2_
           by_cases c21 : ((rd_T50 l0_2 x5_1).f0) = ((rd_T50 l1_2 x5_1).f0)
           ·rw [if_pos c21] at H
            have c21b0 : (((rd_T50 l0_2 x5_1).f0) == ((rd_T50 l1_2 x5_1).f0)) = true := beq_iff_eq.mpr c21
            have c21b1 : (((rd_T50 l0_2 x5_1).f0) != ((rd_T50 l1_2 x5_1).f0)) = false := bne_eq_false_iff_eq.mpr c21
            clear c21
            have HZ1_ := Aside0.mk H
            clear H
            have H := HZ1_.out
            clear HZ1_
            by_cases c22 : ((rd_T50 l0_2 x5_1).f1) = ((rd_T50 l1_2 x5_1).f1)
            ·rw [if_pos c22] at H
             have c22b0 : (((rd_T50 l0_2 x5_1).f1) == ((rd_T50 l1_2 x5_1).f1)) = true := beq_iff_eq.mpr c22
             have c22b1 : (((rd_T50 l0_2 x5_1).f1) != ((rd_T50 l1_2 x5_1).f1)) = false := bne_eq_false_iff_eq.mpr c22
             clear c22
             have H' := Aside0.mk H
             clear H
             have hnb31 := NB267_260.out
             have hnc31 := NB260_267.out
             have hnb32 := NB267_261.out
             have hnc32 := NB261_267.out
             have hnb33 := NB267_268.out
             have hnc33 := NB268_267.out
             obtain ⟨hcz34_0, hcz34_1⟩ := bc2 BK267.out
             obtain ⟨hfz34_0, hfz34_1⟩ := bf2 BK267.out
             have hnb35 := NB268_260.out
             have hnc35 := NB260_268.out
             have hnb36 := NB268_261.out
             have hnc36 := NB261_268.out
             obtain ⟨hcz37_0, hcz37_1⟩ := bc2 BK268.out
             obtain ⟨hfz37_0, hfz37_1⟩ := bf2 BK268.out
             try go_wp2
             go_roundg kj9
             case measure => have := HK1.out; have := HJ9.out; omega
             case rel => exact ⟨(wrap64 (x5_1 + 1)), (by rfl), H', ⟨by have := HK1.out; have := HJ9.out; omega⟩, ⟨by refine blk_far ?_ NB260_268.out _; refine blk_far ?_ NB260_268.out _; refine blk_far ?_ NB260_267.out _; refine blk_far ?_ NB260_267.out _; exact BK260.out⟩, ⟨by refine blk_far ?_ NB261_268.out _; refine blk_far ?_ NB261_268.out _; refine blk_far ?_ NB261_267.out _; refine blk_far ?_ NB261_267.out _; exact BK261.out⟩, ⟨by repeat (with_reducible first | exact HB.out | refine below_set ?_ GE267.out | refine below_set ?_ GE268.out)⟩⟩
            ·rw [if_neg c22] at H
             have c22b0 : (((rd_T50 l0_2 x5_1).f1) == ((rd_T50 l1_2 x5_1).f1)) = false := beq_eq_false_iff_ne.mpr c22
             have c22b1 : (((rd_T50 l0_2 x5_1).f1) != ((rd_T50 l1_2 x5_1).f1)) = true := bne_iff_ne.mpr c22
             obtain ⟨t270, A380, H⟩ := Option.bind_eq_some_iff.mp H
             try dsimp only at H
             have A38 := Aside0.mk A380
             clear A380
             obtain rfl := Option.some.inj H
             have hnb47 := NB267_260.out
             have hnc47 := NB260_267.out
             have hnb48 := NB267_261.out
             have hnc48 := NB261_267.out
             have hnb49 := NB267_268.out
             have hnc49 := NB268_267.out
             obtain ⟨hcz50_0, hcz50_1⟩ := bc2 BK267.out
             obtain ⟨hfz50_0, hfz50_1⟩ := bf2 BK267.out
             have hnb51 := NB268_260.out
             have hnc51 := NB260_268.out
             have hnb52 := NB268_261.out
             have hnc52 := NB261_268.out
             obtain ⟨hcz53_0, hcz53_1⟩ := bc2 BK268.out
             obtain ⟨hfz53_0, hfz53_1⟩ := bf2 BK268.out
             try go_wp2_with (first | ((with_reducible refine gate_callee (f := 66) rfl ?_); refine goesL_ (some 71) rfl rfl Tryd.func66 (by kernel_rfl) rfl #[.int .i64 ((rd_T50 l0_2 x5_1).f1), .int .i64 ((rd_T50 l1_2 x5_1).f1)] rfl (by (try simp only [List.map_toArray, List.map_cons, List.map_nil]); rfl) ?_; (with_reducible refine (ententeref03_number.calls ((rd_T50 l0_2 x5_1).f1) ((rd_T50 l1_2 x5_1).f1) t270 _ A38.out).mono ?_); rintro e w' ⟨rfl, ⟨nd, rfl⟩⟩; refine ⟨_, rfl, ?_⟩))
             go_ret
             exact ⟨by rfl, by repeat (with_reducible first | exact HB.out | apply pw_below_drewN | refine below_set ?_ GE267.out | refine below_set ?_ GE268.out)⟩
           ·rw [if_neg c21] at H
            have c21b0 : (((rd_T50 l0_2 x5_1).f0) == ((rd_T50 l1_2 x5_1).f0)) = false := beq_eq_false_iff_ne.mpr c21
            have c21b1 : (((rd_T50 l0_2 x5_1).f0) != ((rd_T50 l1_2 x5_1).f0)) = true := bne_iff_ne.mpr c21
            obtain ⟨t269, A540, H⟩ := Option.bind_eq_some_iff.mp H
            try dsimp only at H
            have A54 := Aside0.mk A540
            clear A540
            obtain rfl := Option.some.inj H
            have hnb63 := NB267_260.out
            have hnc63 := NB260_267.out
            have hnb64 := NB267_261.out
            have hnc64 := NB261_267.out
            have hnb65 := NB267_268.out
            have hnc65 := NB268_267.out
            obtain ⟨hcz66_0, hcz66_1⟩ := bc2 BK267.out
            obtain ⟨hfz66_0, hfz66_1⟩ := bf2 BK267.out
            have hnb67 := NB268_260.out
            have hnc67 := NB260_268.out
            have hnb68 := NB268_261.out
            have hnc68 := NB261_268.out
            obtain ⟨hcz69_0, hcz69_1⟩ := bc2 BK268.out
            obtain ⟨hfz69_0, hfz69_1⟩ := bf2 BK268.out
            try go_wp2_with (first | ((with_reducible refine gate_callee (f := 66) rfl ?_); refine goesL_ (some 61) rfl rfl Tryd.func66 (by kernel_rfl) rfl #[.int .i64 ((rd_T50 l0_2 x5_1).f0), .int .i64 ((rd_T50 l1_2 x5_1).f0)] rfl (by (try simp only [List.map_toArray, List.map_cons, List.map_nil]); rfl) ?_; (with_reducible refine (ententeref03_number.calls ((rd_T50 l0_2 x5_1).f0) ((rd_T50 l1_2 x5_1).f0) t269 _ A54.out).mono ?_); rintro e w' ⟨rfl, ⟨nd, rfl⟩⟩; refine ⟨_, rfl, ?_⟩))
            go_ret
            exact ⟨by rfl, by repeat (with_reducible first | exact HB.out | apply pw_below_drewN | refine below_set ?_ GE267.out | refine below_set ?_ GE268.out)⟩
          ·rw [if_neg c20] at H
           exact absurd H (by simp)
         ·rw [if_neg c19] at H
          exact absurd H (by simp)
        ·rw [if_neg c18] at H
         exact absurd H (by simp)
       ·replace c17 := Bool.eq_false_iff.mpr c17
        subst c17
        have H1 : ((ententeref03_number.f (l0_2.length : Int) (l1_2.length : Int)).bind fun t264 => (some t264)) = some r := by rw [if_neg (show ¬ (false = true) by decide)] at H; exact H
        clear H
        have H := H1
        clear H1
        obtain ⟨t264, A700, H⟩ := Option.bind_eq_some_iff.mp H
        try dsimp only at H
        have A70 := Aside0.mk A700
        clear A700
        obtain rfl := Option.some.inj H
        have hnb71 := NB260_261.out
        have hnc71 := NB261_260.out
        obtain ⟨hcz72_0, hcz72_1, hcz72_2⟩ := bc3 BK260.out
        obtain ⟨hfz72_0, hfz72_1, hfz72_2⟩ := bf3 BK260.out
        obtain ⟨hcz73_0, hcz73_1, hcz73_2⟩ := bc3 BK261.out
        obtain ⟨hfz73_0, hfz73_1, hfz73_2⟩ := bf3 BK261.out
        go_wp2_with (first | ((with_reducible refine gate_callee (f := 66) rfl ?_); refine goesL_ (some 78) rfl rfl Tryd.func66 (by kernel_rfl) rfl #[.int .i64 (l0_2.length : Int), .int .i64 (l1_2.length : Int)] rfl (by (try simp only [List.map_toArray, List.map_cons, List.map_nil]); rfl) ?_; (with_reducible refine (ententeref03_number.calls (l0_2.length : Int) (l1_2.length : Int) t264 _ A70.out).mono ?_); rintro e w' ⟨rfl, ⟨nd, rfl⟩⟩; refine ⟨_, rfl, ?_⟩))
        go_ret
        exact ⟨by rfl, pw_below_drewN HB.out _⟩
  ·rw [if_neg c4] at H
   have c4b0 : (a0_1 == a1_1) = false := beq_eq_false_iff_ne.mpr c4
   have c4b1 : (a0_1 != a1_1) = true := bne_iff_ne.mpr c4
   obtain ⟨t263, A740, H⟩ := Option.bind_eq_some_iff.mp H
   try dsimp only at H
   have A74 := Aside0.mk A740
   clear A740
   obtain rfl := Option.some.inj H
   go_enter Tryd.func57, Tryd.ntmps57
   go_wp2_with (first | ((with_reducible refine gate_dst (N := 2) rfl ?_); (try (refine gate_guard (by rfl) ?_; dsimp only)); refine box_event ?hg (N := 2) ?hd (cs := #[.int .i64 a0_0, .int .i64 a0_1, .slice A0_2 l0_2.length c0_2]) (t := 24) ?hr ?_; (case hd => rfl); (case hg => rfl); (case hr => (go_simp; done)); intro gb260 hg w75 hbox hb; have BK260 := Aside0.mk (hbox); have GW260 := Aside0.mk ((by rw [hg]; exact (below_size (HB.out)) : w.heap.size ≤ gb260)); have GE260 := Aside0.mk ((by rw [hg]; exact (below_size (HB.out)) : w.heap.size ≤ gb260)); replace HB := Aside0.mk (below_step (HB.out) hb); clear hb hbox hg) | ((with_reducible refine gate_dst (N := 3) rfl ?_); (try (refine gate_guard (by rfl) ?_; dsimp only)); refine box_event ?hg (N := 3) ?hd (cs := #[.int .i64 a1_0, .int .i64 a1_1, .slice A1_2 l1_2.length c1_2]) (t := 24) ?hr ?_; (case hd => rfl); (case hg => rfl); (case hr => (go_simp; done)); intro gb261 hg w76 hbox hb; have BK261 := Aside0.mk (hbox); have GW261 := Aside0.mk ((by rw [hg]; exact (below_size (HB.out)) : w.heap.size ≤ gb261)); have GE261 := Aside0.mk ((by rw [hg]; exact (below_size (HB.out)) : w.heap.size ≤ gb261)); replace HB := Aside0.mk (below_step (HB.out) hb); have NB260_261 := Aside0.mk ((by rw [hg]; exact Nat.ne_of_lt (blk_lt BK260.out) : gb260 ≠ gb261)); have NB261_260 := Aside0.mk ((by rw [hg]; exact Nat.ne_of_gt (blk_lt BK260.out) : gb261 ≠ gb260)); replace BK260 := Aside0.mk (blk_below BK260.out hb); clear hb hbox hg; have hnb77 := NB260_261.out; have hnc77 := NB261_260.out; obtain ⟨hcz78_0, hcz78_1, hcz78_2⟩ := bc3 BK260.out; obtain ⟨hfz78_0, hfz78_1, hfz78_2⟩ := bf3 BK260.out; obtain ⟨hcz79_0, hcz79_1, hcz79_2⟩ := bc3 BK261.out; obtain ⟨hfz79_0, hfz79_1, hfz79_2⟩ := bf3 BK261.out) | ((with_reducible refine gate_callee (f := 66) rfl ?_); refine goesL_ (some 27) rfl rfl Tryd.func66 (by kernel_rfl) rfl #[.int .i64 a0_1, .int .i64 a1_1] rfl (by (try simp only [List.map_toArray, List.map_cons, List.map_nil]); rfl) ?_; (with_reducible refine (ententeref03_number.calls a0_1 a1_1 t263 _ A74.out).mono ?_); rintro e w' ⟨rfl, ⟨nd, rfl⟩⟩; refine ⟨_, rfl, ?_⟩))
   go_ret
   exact ⟨by rfl, pw_below_drewN HB.out _⟩
 ·rw [if_neg c3] at H
  have c3b0 : (a0_0 == a1_0) = false := beq_eq_false_iff_ne.mpr c3
  have c3b1 : (a0_0 != a1_0) = true := bne_iff_ne.mpr c3
  obtain ⟨t262, A800, H⟩ := Option.bind_eq_some_iff.mp H
  try dsimp only at H
  have A80 := Aside0.mk A800
  clear A800
  obtain rfl := Option.some.inj H
  go_enter Tryd.func57, Tryd.ntmps57
  go_wp2_with (first | ((with_reducible refine gate_dst (N := 2) rfl ?_); (try (refine gate_guard (by rfl) ?_; dsimp only)); refine box_event ?hg (N := 2) ?hd (cs := #[.int .i64 a0_0, .int .i64 a0_1, .slice A0_2 l0_2.length c0_2]) (t := 24) ?hr ?_; (case hd => rfl); (case hg => rfl); (case hr => (go_simp; done)); intro gb260 hg w81 hbox hb; have BK260 := Aside0.mk (hbox); have GW260 := Aside0.mk ((by rw [hg]; exact (below_size (HB.out)) : w.heap.size ≤ gb260)); have GE260 := Aside0.mk ((by rw [hg]; exact (below_size (HB.out)) : w.heap.size ≤ gb260)); replace HB := Aside0.mk (below_step (HB.out) hb); clear hb hbox hg) | ((with_reducible refine gate_dst (N := 3) rfl ?_); (try (refine gate_guard (by rfl) ?_; dsimp only)); refine box_event ?hg (N := 3) ?hd (cs := #[.int .i64 a1_0, .int .i64 a1_1, .slice A1_2 l1_2.length c1_2]) (t := 24) ?hr ?_; (case hd => rfl); (case hg => rfl); (case hr => (go_simp; done)); intro gb261 hg w82 hbox hb; have BK261 := Aside0.mk (hbox); have GW261 := Aside0.mk ((by rw [hg]; exact (below_size (HB.out)) : w.heap.size ≤ gb261)); have GE261 := Aside0.mk ((by rw [hg]; exact (below_size (HB.out)) : w.heap.size ≤ gb261)); replace HB := Aside0.mk (below_step (HB.out) hb); have NB260_261 := Aside0.mk ((by rw [hg]; exact Nat.ne_of_lt (blk_lt BK260.out) : gb260 ≠ gb261)); have NB261_260 := Aside0.mk ((by rw [hg]; exact Nat.ne_of_gt (blk_lt BK260.out) : gb261 ≠ gb260)); replace BK260 := Aside0.mk (blk_below BK260.out hb); clear hb hbox hg; have hnb83 := NB260_261.out; have hnc83 := NB261_260.out; obtain ⟨hcz84_0, hcz84_1, hcz84_2⟩ := bc3 BK260.out; obtain ⟨hfz84_0, hfz84_1, hfz84_2⟩ := bf3 BK260.out; obtain ⟨hcz85_0, hcz85_1, hcz85_2⟩ := bc3 BK261.out; obtain ⟨hfz85_0, hfz85_1, hfz85_2⟩ := bf3 BK261.out) | ((with_reducible refine gate_callee (f := 66) rfl ?_); refine goesL_ (some 17) rfl rfl Tryd.func66 (by kernel_rfl) rfl #[.int .i64 a0_0, .int .i64 a1_0] rfl (by (try simp only [List.map_toArray, List.map_cons, List.map_nil]); rfl) ?_; (with_reducible refine (ententeref03_number.calls a0_0 a1_0 t262 _ A80.out).mono ?_); rintro e w' ⟨rfl, ⟨nd, rfl⟩⟩; refine ⟨_, rfl, ?_⟩))
  go_ret
  exact ⟨by rfl, pw_below_drewN HB.out _⟩

/-! ### ententeref03_Same: function 49 -/
def ententeref03_Same.f (k : Nat) (a0_0 : Int) (a0_1 : Int) (l0_2 : List (S50)) (a1_0 : Int) (a1_1 : Int) (l1_2 : List (S50)) : Option (Bool) := (ententeref03_Cmp.f k a0_0 a0_1 l0_2 a1_0 a1_1 l1_2).bind fun t273 => (some (t273 == 0))
theorem ententeref03_Same.mono : ∀ a0 a1 a2 a3 a4 a5 k, LeO (ententeref03_Same.f k a0 a1 a2 a3 a4 a5) (ententeref03_Same.f (k + 1) a0 a1 a2 a3 a4 a5) := by
 intro a0 a1 a2 a3 a4 a5 k
 unfold ententeref03_Same.f
 repeat' first
   | (with_reducible exact ententeref03_Cmp.mono _ _ _ _ _ _ _)
   | (with_reducible exact LeO.refl _)
   | (with_reducible exact LeO.none _)
   | (with_reducible refine LeO.ite ?_ ?_)
   | (with_reducible refine LeO.bind ?_ (fun _ => ?_))
   | exact ententeref03_Cmp.mono _ _ _ _ _ _ _
   | exact LeO.none _
   | refine LeO.ite ?_ ?_
   | refine LeO.bind ?_ (fun _ => ?_)
set_option maxHeartbeats 8000000 in
set_option maxRecDepth 100000 in
theorem ententeref03_Same.calls (k : Nat) (a0_0 : Int) (a0_1 : Int) (A0_2 : Option Addr) (c0_2 : Nat) (l0_2 : List (S50)) (a1_0 : Int) (a1_1 : Int) (A1_2 : Option Addr) (c1_2 : Nat) (l1_2 : List (S50)) (r : Bool) (w : World) (hr0_2 : Kd.C k50 w A0_2 l0_2.length l0_2) (hc0_2 : l0_2.length ≤ c0_2) (hr1_2 : Kd.C k50 w A1_2 l1_2.length l1_2) (hc1_2 : l1_2.length ≤ c1_2) (h : ententeref03_Same.f k a0_0 a0_1 l0_2 a1_0 a1_1 l1_2 = some r) :
  Calls Tryd.prog 49 #[.agg #[.int .i64 a0_0, .int .i64 a0_1, .slice A0_2 l0_2.length c0_2], .agg #[.int .i64 a1_0, .int .i64 a1_1, .slice A1_2 l1_2.length c1_2]] w fun e w' => e = .returned (.bool r) ∧ Below w.heap.size w w' := by
 have hu24 := Tryd.underlying24
 have HR0_2 := Aside0.mk hr0_2
 have HC0_2 := Aside0.mk hc0_2
 clear hr0_2 hc0_2
 have HR1_2 := Aside0.mk hr1_2
 have HC1_2 := Aside0.mk hc1_2
 clear hr1_2 hc1_2
 have HB := Aside0.mk (Below.refl w.heap.size w)
 have H : ((ententeref03_Cmp.f k a0_0 a0_1 l0_2 a1_0 a1_1 l1_2).bind fun t273 => (some (t273 == 0))) = some r := h
 clear h
 obtain ⟨t273, A30, H⟩ := Option.bind_eq_some_iff.mp H
 try dsimp only at H
 have A3 := Aside0.mk A30
 clear A30
 obtain rfl := Option.some.inj H
 go_enter Tryd.func49, Tryd.ntmps49
 go_wp2_with (first | ((with_reducible refine gate_dst (N := 2) rfl ?_); refine box_event ?hg (N := 2) ?hd (cs := #[.int .i64 a0_0, .int .i64 a0_1, .slice A0_2 l0_2.length c0_2]) (t := 24) ?hr ?_; (case hd => rfl); (case hg => rfl); (case hr => (go_simp; done)); intro gb271 hg w4 hbox hb; have BK271 := Aside0.mk (hbox); have GW271 := Aside0.mk ((by rw [hg]; exact (below_size (HB.out)) : w.heap.size ≤ gb271)); have GE271 := Aside0.mk ((by rw [hg]; exact (below_size (HB.out)) : w.heap.size ≤ gb271)); replace HB := Aside0.mk (below_step (HB.out) hb); clear hb hbox hg) | ((with_reducible refine gate_dst (N := 3) rfl ?_); refine box_event ?hg (N := 3) ?hd (cs := #[.int .i64 a1_0, .int .i64 a1_1, .slice A1_2 l1_2.length c1_2]) (t := 24) ?hr ?_; (case hd => rfl); (case hg => rfl); (case hr => (go_simp; done)); intro gb272 hg w5 hbox hb; have BK272 := Aside0.mk (hbox); have GW272 := Aside0.mk ((by rw [hg]; exact (below_size (HB.out)) : w.heap.size ≤ gb272)); have GE272 := Aside0.mk ((by rw [hg]; exact (below_size (HB.out)) : w.heap.size ≤ gb272)); replace HB := Aside0.mk (below_step (HB.out) hb); have NB271_272 := Aside0.mk ((by rw [hg]; exact Nat.ne_of_lt (blk_lt BK271.out) : gb271 ≠ gb272)); have NB272_271 := Aside0.mk ((by rw [hg]; exact Nat.ne_of_gt (blk_lt BK271.out) : gb272 ≠ gb271)); replace BK271 := Aside0.mk (blk_below BK271.out hb); clear hb hbox hg; have hnb6 := NB271_272.out; have hnc6 := NB272_271.out; obtain ⟨hcz7_0, hcz7_1, hcz7_2⟩ := bc3 BK271.out; obtain ⟨hfz7_0, hfz7_1, hfz7_2⟩ := bf3 BK271.out; obtain ⟨hcz8_0, hcz8_1, hcz8_2⟩ := bc3 BK272.out; obtain ⟨hfz8_0, hfz8_1, hfz8_2⟩ := bf3 BK272.out) | ((with_reducible refine gate_callee (f := 57) rfl ?_); refine goesL_ (some 7) rfl rfl Tryd.func57 (by kernel_rfl) rfl #[.agg #[.int .i64 a0_0, .int .i64 a0_1, .slice A0_2 l0_2.length c0_2], .agg #[.int .i64 a1_0, .int .i64 a1_1, .slice A1_2 l1_2.length c1_2]] rfl (by (try simp only [List.map_toArray, List.map_cons, List.map_nil]); rfl) ?_; (with_reducible refine (ententeref03_Cmp.calls k a0_0 a0_1 _ _ l0_2 a1_0 a1_1 _ _ l1_2 t273 _ ?side1 ?side2 ?side3 ?side4 A3.out).mono ?_); (case side1 => exact (Kd.C_below HR0_2.out HB.out)); (case side2 => exact HC0_2.out); (case side3 => exact (Kd.C_below HR1_2.out HB.out)); (case side4 => exact HC1_2.out); rintro e w9 ⟨rfl, hb⟩; refine ⟨_, rfl, ?_⟩; replace BK271 := Aside0.mk (blk_below BK271.out hb); replace BK272 := Aside0.mk (blk_below BK272.out hb); replace HB := Aside0.mk (below_step (HB.out) hb); clear hb))
 go_ret
 exact ⟨by rfl, HB.out⟩

/-! ### ententeref13_SameNote: function 36 -/
def ententeref13_SameNote.f (k : Nat) (a0_0 : Int) (a0_1 : Int) (a0_2 : Int) (l0_3 : List (S50)) (a0_4 : ByteArray) (a0_5 : Int) (a1_0 : Int) (a1_1 : Int) (a1_2 : Int) (l1_3 : List (S50)) (a1_4 : ByteArray) (a1_5 : Int) : Option (Bool) := if a0_0 = a1_0 then ((ententeref03_Same.f k a0_1 a0_2 l0_3 a1_1 a1_2 l1_3).bind fun t276 => (if t276 = true then (if a0_4.toList = a1_4.toList then (some (a0_5 == a1_5)) else (some false)) else (some false))) else (some false)
theorem ententeref13_SameNote.mono : ∀ a0 a1 a2 a3 a4 a5 a6 a7 a8 a9 a10 a11 k, LeO (ententeref13_SameNote.f k a0 a1 a2 a3 a4 a5 a6 a7 a8 a9 a10 a11) (ententeref13_SameNote.f (k + 1) a0 a1 a2 a3 a4 a5 a6 a7 a8 a9 a10 a11) := by
 intro a0 a1 a2 a3 a4 a5 a6 a7 a8 a9 a10 a11 k
 unfold ententeref13_SameNote.f
 repeat' first
   | (with_reducible exact ententeref03_Same.mono _ _ _ _ _ _ _)
   | (with_reducible exact LeO.refl _)
   | (with_reducible exact LeO.none _)
   | (with_reducible refine LeO.ite ?_ ?_)
   | (with_reducible refine LeO.bind ?_ (fun _ => ?_))
   | exact ententeref03_Same.mono _ _ _ _ _ _ _
   | exact LeO.none _
   | refine LeO.ite ?_ ?_
   | refine LeO.bind ?_ (fun _ => ?_)
set_option maxHeartbeats 8000000 in
set_option maxRecDepth 100000 in
theorem ententeref13_SameNote.calls (k : Nat) (a0_0 : Int) (a0_1 : Int) (a0_2 : Int) (A0_3 : Option Addr) (c0_3 : Nat) (l0_3 : List (S50)) (a0_4 : ByteArray) (a0_5 : Int) (a1_0 : Int) (a1_1 : Int) (a1_2 : Int) (A1_3 : Option Addr) (c1_3 : Nat) (l1_3 : List (S50)) (a1_4 : ByteArray) (a1_5 : Int) (r : Bool) (w : World) (hr0_3 : Kd.C k50 w A0_3 l0_3.length l0_3) (hc0_3 : l0_3.length ≤ c0_3) (hr1_3 : Kd.C k50 w A1_3 l1_3.length l1_3) (hc1_3 : l1_3.length ≤ c1_3) (h : ententeref13_SameNote.f k a0_0 a0_1 a0_2 l0_3 a0_4 a0_5 a1_0 a1_1 a1_2 l1_3 a1_4 a1_5 = some r) :
  Calls Tryd.prog 36 #[.agg #[.int .i64 a0_0, .int .i64 a0_1, .int .i64 a0_2, .slice A0_3 l0_3.length c0_3, .string a0_4, .int .i64 a0_5], .agg #[.int .i64 a1_0, .int .i64 a1_1, .int .i64 a1_2, .slice A1_3 l1_3.length c1_3, .string a1_4, .int .i64 a1_5]] w fun e w' => e = .returned (.bool r) ∧ Below w.heap.size w w' := by
 have hu26 := Tryd.underlying26
 have hu24 := Tryd.underlying24
 have HR0_3 := Aside0.mk hr0_3
 have HC0_3 := Aside0.mk hc0_3
 clear hr0_3 hc0_3
 have HR1_3 := Aside0.mk hr1_3
 have HC1_3 := Aside0.mk hc1_3
 clear hr1_3 hc1_3
 have HB := Aside0.mk (Below.refl w.heap.size w)
 have H : (if a0_0 = a1_0 then ((ententeref03_Same.f k a0_1 a0_2 l0_3 a1_1 a1_2 l1_3).bind fun t276 => (if t276 = true then (if a0_4.toList = a1_4.toList then (some (a0_5 == a1_5)) else (some false)) else (some false))) else (some false)) = some r := h
 clear h
 by_cases c3 : a0_0 = a1_0
 ·rw [if_pos c3] at H
  have c3b0 : (a0_0 == a1_0) = true := beq_iff_eq.mpr c3
  have c3b1 : (a0_0 != a1_0) = false := bne_eq_false_iff_eq.mpr c3
  clear c3
  obtain ⟨t276, A40, H⟩ := Option.bind_eq_some_iff.mp H
  try dsimp only at H
  have A4 := Aside0.mk A40
  clear A40
  by_cases c5 : t276 = true
  ·subst c5
   have H1 : (if a0_4.toList = a1_4.toList then (some (a0_5 == a1_5)) else (some false)) = some r := by rw [if_pos rfl] at H; exact H
   clear H
   have H := H1
   clear H1
   by_cases c6 : a0_4.toList = a1_4.toList
   ·rw [if_pos c6] at H
    have c6b0 : (a0_4.toList == a1_4.toList) = true := beq_iff_eq.mpr c6
    have c6b1 : (a0_4.toList != a1_4.toList) = false := bne_eq_false_iff_eq.mpr c6
    clear c6
    obtain rfl := Option.some.inj H
    go_enter Tryd.func36, Tryd.ntmps36
    go_wp2_with (first | ((with_reducible refine gate_dst (N := 2) rfl ?_); refine box_event ?hg (N := 2) ?hd (cs := #[.int .i64 a0_0, .int .i64 a0_1, .int .i64 a0_2, .slice A0_3 l0_3.length c0_3, .string a0_4, .int .i64 a0_5]) (t := 26) ?hr ?_; (case hd => rfl); (case hg => rfl); (case hr => (go_simp; done)); intro gb274 hg w7 hbox hb; have BK274 := Aside0.mk (hbox); have GW274 := Aside0.mk ((by rw [hg]; exact (below_size (HB.out)) : w.heap.size ≤ gb274)); have GE274 := Aside0.mk ((by rw [hg]; exact (below_size (HB.out)) : w.heap.size ≤ gb274)); replace HB := Aside0.mk (below_step (HB.out) hb); clear hb hbox hg) | ((with_reducible refine gate_dst (N := 3) rfl ?_); refine box_event ?hg (N := 3) ?hd (cs := #[.int .i64 a1_0, .int .i64 a1_1, .int .i64 a1_2, .slice A1_3 l1_3.length c1_3, .string a1_4, .int .i64 a1_5]) (t := 26) ?hr ?_; (case hd => rfl); (case hg => rfl); (case hr => (go_simp; done)); intro gb275 hg w8 hbox hb; have BK275 := Aside0.mk (hbox); have GW275 := Aside0.mk ((by rw [hg]; exact (below_size (HB.out)) : w.heap.size ≤ gb275)); have GE275 := Aside0.mk ((by rw [hg]; exact (below_size (HB.out)) : w.heap.size ≤ gb275)); replace HB := Aside0.mk (below_step (HB.out) hb); have NB274_275 := Aside0.mk ((by rw [hg]; exact Nat.ne_of_lt (blk_lt BK274.out) : gb274 ≠ gb275)); have NB275_274 := Aside0.mk ((by rw [hg]; exact Nat.ne_of_gt (blk_lt BK274.out) : gb275 ≠ gb274)); replace BK274 := Aside0.mk (blk_below BK274.out hb); clear hb hbox hg; have hnb9 := NB274_275.out; have hnc9 := NB275_274.out; obtain ⟨hcz10_0, hcz10_1, hcz10_2, hcz10_3, hcz10_4, hcz10_5⟩ := bc6 BK274.out; obtain ⟨hfz10_0, hfz10_1, hfz10_2, hfz10_3, hfz10_4, hfz10_5⟩ := bf6 BK274.out; obtain ⟨hcz11_0, hcz11_1, hcz11_2, hcz11_3, hcz11_4, hcz11_5⟩ := bc6 BK275.out; obtain ⟨hfz11_0, hfz11_1, hfz11_2, hfz11_3, hfz11_4, hfz11_5⟩ := bf6 BK275.out) | (go_at_call 49; (with_reducible refine (ententeref03_Same.calls k a0_1 a0_2 _ _ l0_3 a1_1 a1_2 _ _ l1_3 true _ ?side1 ?side2 ?side3 ?side4 A4.out).mono ?_); (case side1 => exact (Kd.C_below HR0_3.out HB.out)); (case side2 => exact HC0_3.out); (case side3 => exact (Kd.C_below HR1_3.out HB.out)); (case side4 => exact HC1_3.out); rintro e w12 ⟨rfl, hb⟩; replace BK274 := Aside0.mk (blk_below BK274.out hb); replace BK275 := Aside0.mk (blk_below BK275.out hb); replace HB := Aside0.mk (below_step (HB.out) hb); clear hb; obtain ⟨hcz13_0, hcz13_1, hcz13_2, hcz13_3, hcz13_4, hcz13_5⟩ := bc6 BK274.out; obtain ⟨hfz13_0, hfz13_1, hfz13_2, hfz13_3, hfz13_4, hfz13_5⟩ := bf6 BK274.out; obtain ⟨hcz14_0, hcz14_1, hcz14_2, hcz14_3, hcz14_4, hcz14_5⟩ := bc6 BK275.out; obtain ⟨hfz14_0, hfz14_1, hfz14_2, hfz14_3, hfz14_4, hfz14_5⟩ := bf6 BK275.out))
    go_ret
    exact ⟨by rfl, HB.out⟩
   ·rw [if_neg c6] at H
    have c6b0 : (a0_4.toList == a1_4.toList) = false := beq_eq_false_iff_ne.mpr c6
    have c6b1 : (a0_4.toList != a1_4.toList) = true := bne_iff_ne.mpr c6
    obtain rfl := Option.some.inj H
    go_enter Tryd.func36, Tryd.ntmps36
    go_wp2_with (first | ((with_reducible refine gate_dst (N := 2) rfl ?_); refine box_event ?hg (N := 2) ?hd (cs := #[.int .i64 a0_0, .int .i64 a0_1, .int .i64 a0_2, .slice A0_3 l0_3.length c0_3, .string a0_4, .int .i64 a0_5]) (t := 26) ?hr ?_; (case hd => rfl); (case hg => rfl); (case hr => (go_simp; done)); intro gb274 hg w15 hbox hb; have BK274 := Aside0.mk (hbox); have GW274 := Aside0.mk ((by rw [hg]; exact (below_size (HB.out)) : w.heap.size ≤ gb274)); have GE274 := Aside0.mk ((by rw [hg]; exact (below_size (HB.out)) : w.heap.size ≤ gb274)); replace HB := Aside0.mk (below_step (HB.out) hb); clear hb hbox hg) | ((with_reducible refine gate_dst (N := 3) rfl ?_); refine box_event ?hg (N := 3) ?hd (cs := #[.int .i64 a1_0, .int .i64 a1_1, .int .i64 a1_2, .slice A1_3 l1_3.length c1_3, .string a1_4, .int .i64 a1_5]) (t := 26) ?hr ?_; (case hd => rfl); (case hg => rfl); (case hr => (go_simp; done)); intro gb275 hg w16 hbox hb; have BK275 := Aside0.mk (hbox); have GW275 := Aside0.mk ((by rw [hg]; exact (below_size (HB.out)) : w.heap.size ≤ gb275)); have GE275 := Aside0.mk ((by rw [hg]; exact (below_size (HB.out)) : w.heap.size ≤ gb275)); replace HB := Aside0.mk (below_step (HB.out) hb); have NB274_275 := Aside0.mk ((by rw [hg]; exact Nat.ne_of_lt (blk_lt BK274.out) : gb274 ≠ gb275)); have NB275_274 := Aside0.mk ((by rw [hg]; exact Nat.ne_of_gt (blk_lt BK274.out) : gb275 ≠ gb274)); replace BK274 := Aside0.mk (blk_below BK274.out hb); clear hb hbox hg; have hnb17 := NB274_275.out; have hnc17 := NB275_274.out; obtain ⟨hcz18_0, hcz18_1, hcz18_2, hcz18_3, hcz18_4, hcz18_5⟩ := bc6 BK274.out; obtain ⟨hfz18_0, hfz18_1, hfz18_2, hfz18_3, hfz18_4, hfz18_5⟩ := bf6 BK274.out; obtain ⟨hcz19_0, hcz19_1, hcz19_2, hcz19_3, hcz19_4, hcz19_5⟩ := bc6 BK275.out; obtain ⟨hfz19_0, hfz19_1, hfz19_2, hfz19_3, hfz19_4, hfz19_5⟩ := bf6 BK275.out) | (go_at_call 49; (with_reducible refine (ententeref03_Same.calls k a0_1 a0_2 _ _ l0_3 a1_1 a1_2 _ _ l1_3 true _ ?side1 ?side2 ?side3 ?side4 A4.out).mono ?_); (case side1 => exact (Kd.C_below HR0_3.out HB.out)); (case side2 => exact HC0_3.out); (case side3 => exact (Kd.C_below HR1_3.out HB.out)); (case side4 => exact HC1_3.out); rintro e w20 ⟨rfl, hb⟩; replace BK274 := Aside0.mk (blk_below BK274.out hb); replace BK275 := Aside0.mk (blk_below BK275.out hb); replace HB := Aside0.mk (below_step (HB.out) hb); clear hb; obtain ⟨hcz21_0, hcz21_1, hcz21_2, hcz21_3, hcz21_4, hcz21_5⟩ := bc6 BK274.out; obtain ⟨hfz21_0, hfz21_1, hfz21_2, hfz21_3, hfz21_4, hfz21_5⟩ := bf6 BK274.out; obtain ⟨hcz22_0, hcz22_1, hcz22_2, hcz22_3, hcz22_4, hcz22_5⟩ := bc6 BK275.out; obtain ⟨hfz22_0, hfz22_1, hfz22_2, hfz22_3, hfz22_4, hfz22_5⟩ := bf6 BK275.out))
    go_ret
    exact ⟨by rfl, HB.out⟩
  ·replace c5 := Bool.eq_false_iff.mpr c5
   subst c5
   have H1 : (some false) = some r := by rw [if_neg (show ¬ (false = true) by decide)] at H; exact H
   clear H
   have H := H1
   clear H1
   obtain rfl := Option.some.inj H
   go_enter Tryd.func36, Tryd.ntmps36
   go_wp2_with (first | ((with_reducible refine gate_dst (N := 2) rfl ?_); refine box_event ?hg (N := 2) ?hd (cs := #[.int .i64 a0_0, .int .i64 a0_1, .int .i64 a0_2, .slice A0_3 l0_3.length c0_3, .string a0_4, .int .i64 a0_5]) (t := 26) ?hr ?_; (case hd => rfl); (case hg => rfl); (case hr => (go_simp; done)); intro gb274 hg w23 hbox hb; have BK274 := Aside0.mk (hbox); have GW274 := Aside0.mk ((by rw [hg]; exact (below_size (HB.out)) : w.heap.size ≤ gb274)); have GE274 := Aside0.mk ((by rw [hg]; exact (below_size (HB.out)) : w.heap.size ≤ gb274)); replace HB := Aside0.mk (below_step (HB.out) hb); clear hb hbox hg) | ((with_reducible refine gate_dst (N := 3) rfl ?_); refine box_event ?hg (N := 3) ?hd (cs := #[.int .i64 a1_0, .int .i64 a1_1, .int .i64 a1_2, .slice A1_3 l1_3.length c1_3, .string a1_4, .int .i64 a1_5]) (t := 26) ?hr ?_; (case hd => rfl); (case hg => rfl); (case hr => (go_simp; done)); intro gb275 hg w24 hbox hb; have BK275 := Aside0.mk (hbox); have GW275 := Aside0.mk ((by rw [hg]; exact (below_size (HB.out)) : w.heap.size ≤ gb275)); have GE275 := Aside0.mk ((by rw [hg]; exact (below_size (HB.out)) : w.heap.size ≤ gb275)); replace HB := Aside0.mk (below_step (HB.out) hb); have NB274_275 := Aside0.mk ((by rw [hg]; exact Nat.ne_of_lt (blk_lt BK274.out) : gb274 ≠ gb275)); have NB275_274 := Aside0.mk ((by rw [hg]; exact Nat.ne_of_gt (blk_lt BK274.out) : gb275 ≠ gb274)); replace BK274 := Aside0.mk (blk_below BK274.out hb); clear hb hbox hg; have hnb25 := NB274_275.out; have hnc25 := NB275_274.out; obtain ⟨hcz26_0, hcz26_1, hcz26_2, hcz26_3, hcz26_4, hcz26_5⟩ := bc6 BK274.out; obtain ⟨hfz26_0, hfz26_1, hfz26_2, hfz26_3, hfz26_4, hfz26_5⟩ := bf6 BK274.out; obtain ⟨hcz27_0, hcz27_1, hcz27_2, hcz27_3, hcz27_4, hcz27_5⟩ := bc6 BK275.out; obtain ⟨hfz27_0, hfz27_1, hfz27_2, hfz27_3, hfz27_4, hfz27_5⟩ := bf6 BK275.out) | (go_at_call 49; (with_reducible refine (ententeref03_Same.calls k a0_1 a0_2 _ _ l0_3 a1_1 a1_2 _ _ l1_3 false _ ?side1 ?side2 ?side3 ?side4 A4.out).mono ?_); (case side1 => exact (Kd.C_below HR0_3.out HB.out)); (case side2 => exact HC0_3.out); (case side3 => exact (Kd.C_below HR1_3.out HB.out)); (case side4 => exact HC1_3.out); rintro e w28 ⟨rfl, hb⟩; replace BK274 := Aside0.mk (blk_below BK274.out hb); replace BK275 := Aside0.mk (blk_below BK275.out hb); replace HB := Aside0.mk (below_step (HB.out) hb); clear hb))
   go_ret
   exact ⟨by rfl, HB.out⟩
 ·rw [if_neg c3] at H
  have c3b0 : (a0_0 == a1_0) = false := beq_eq_false_iff_ne.mpr c3
  have c3b1 : (a0_0 != a1_0) = true := bne_iff_ne.mpr c3
  obtain rfl := Option.some.inj H
  go_enter Tryd.func36, Tryd.ntmps36
  go_wp2_with (first | ((with_reducible refine gate_dst (N := 2) rfl ?_); refine box_event ?hg (N := 2) ?hd (cs := #[.int .i64 a0_0, .int .i64 a0_1, .int .i64 a0_2, .slice A0_3 l0_3.length c0_3, .string a0_4, .int .i64 a0_5]) (t := 26) ?hr ?_; (case hd => rfl); (case hg => rfl); (case hr => (go_simp; done)); intro gb274 hg w29 hbox hb; have BK274 := Aside0.mk (hbox); have GW274 := Aside0.mk ((by rw [hg]; exact (below_size (HB.out)) : w.heap.size ≤ gb274)); have GE274 := Aside0.mk ((by rw [hg]; exact (below_size (HB.out)) : w.heap.size ≤ gb274)); replace HB := Aside0.mk (below_step (HB.out) hb); clear hb hbox hg) | ((with_reducible refine gate_dst (N := 3) rfl ?_); refine box_event ?hg (N := 3) ?hd (cs := #[.int .i64 a1_0, .int .i64 a1_1, .int .i64 a1_2, .slice A1_3 l1_3.length c1_3, .string a1_4, .int .i64 a1_5]) (t := 26) ?hr ?_; (case hd => rfl); (case hg => rfl); (case hr => (go_simp; done)); intro gb275 hg w30 hbox hb; have BK275 := Aside0.mk (hbox); have GW275 := Aside0.mk ((by rw [hg]; exact (below_size (HB.out)) : w.heap.size ≤ gb275)); have GE275 := Aside0.mk ((by rw [hg]; exact (below_size (HB.out)) : w.heap.size ≤ gb275)); replace HB := Aside0.mk (below_step (HB.out) hb); have NB274_275 := Aside0.mk ((by rw [hg]; exact Nat.ne_of_lt (blk_lt BK274.out) : gb274 ≠ gb275)); have NB275_274 := Aside0.mk ((by rw [hg]; exact Nat.ne_of_gt (blk_lt BK274.out) : gb275 ≠ gb274)); replace BK274 := Aside0.mk (blk_below BK274.out hb); clear hb hbox hg; have hnb31 := NB274_275.out; have hnc31 := NB275_274.out; obtain ⟨hcz32_0, hcz32_1, hcz32_2, hcz32_3, hcz32_4, hcz32_5⟩ := bc6 BK274.out; obtain ⟨hfz32_0, hfz32_1, hfz32_2, hfz32_3, hfz32_4, hfz32_5⟩ := bf6 BK274.out; obtain ⟨hcz33_0, hcz33_1, hcz33_2, hcz33_3, hcz33_4, hcz33_5⟩ := bc6 BK275.out; obtain ⟨hfz33_0, hfz33_1, hfz33_2, hfz33_3, hfz33_4, hfz33_5⟩ := bf6 BK275.out))
  go_ret
  exact ⟨by rfl, HB.out⟩

end Go.Proofs.YtlaeihdldofkcaaDoor.PN

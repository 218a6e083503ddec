/- The machine side of this seat's laws: plain functions, and proofs that the calls do what they say; written by a program of this session over the translation; no conditions beyond those typed. -/
import Derived.Test.YtnlljacklhgfgaaDoorPJx0
import Derived.Test.YtnlljacklhgfgaaDoorPJx4
import Derived.Test.YtnlljacklhgfgaaDoorPJx5
import Derived.Test.YtnlljacklhgfgaaDoorPJx7
import Derived.Test.YtnlljacklhgfgaaDoorPJx10
namespace Go.Proofs.YtnlljacklhgfgaaDoor.PI
open Go.RowKit Go.Proofs.YtnlljacklhgfgaaDoorW.PrintWords Go.Proofs.YtnlljacklhgfgaaDoorW.PrintLast Go.Proofs.YtnlljacklhgfgaaDoorW.PrintMore
attribute [local go_sem] max2_int min2_int max_two min_two max_three min_three max_four min_four   -- for this text's walks alone
set_option linter.unusedVariables false
set_option linter.unusedSimpArgs false

/-! ### ententeref03_Digits: function 41 -/
def ententeref03_Digits.f : Nat → Int → Option (ByteArray)
 | 0, _ => none
 | k + 1, a0 => if a0 < 10 then (if 0 ≤ a0 then (if a0 ≤ (wrap64 (a0 + 1)) then (if (wrap64 (a0 + 1)) ≤ 10 then (some ((⟨#[48, 49, 50, 51, 52, 53, 54, 55, 56, 57]⟩ : ByteArray).extract (a0 : Int).toNat ((wrap64 (a0 + 1)) : Int).toNat)) else (none)) else (none)) else (none)) else ((ententeref03_Digits.f k (wrap64 (Int.tdiv a0 10))).bind fun t254 => ((ententeref03_Digits.f k (Int.tmod a0 10)).bind fun t255 => (if t254.size + t255.size ≤ 9223372036854775807 then (some (t254 ++ t255)) else (none))))
theorem ententeref03_Digits.mono_l : ∀ k, (∀ y0, LeO (ententeref03_Digits.f k y0) (ententeref03_Digits.f (k + 1) y0))
 | 0 => fun _ r h => by simp [ententeref03_Digits.f] at h
 | k + 1 => by
  have ih0 := ententeref03_Digits.mono_l k
  ·intro y0
   unfold ententeref03_Digits.f
   repeat' first
   | (with_reducible exact ih0 _)
   | (with_reducible exact LeO.refl _)
   | (with_reducible exact LeO.none _)
   | (with_reducible refine LeO.ite ?_ ?_)
   | (with_reducible refine LeO.bind ?_ (fun _ => ?_))
   | exact ih0 _
   | exact LeO.none _
   | refine LeO.ite ?_ ?_
   | refine LeO.bind ?_ (fun _ => ?_)
theorem ententeref03_Digits.mono : ∀ a0 k, LeO (ententeref03_Digits.f k a0) (ententeref03_Digits.f (k + 1) a0) := by
 intro a0 k
 have ih0 := ententeref03_Digits.mono_l k
 exact ih0 a0
set_option maxHeartbeats 8000000 in
set_option maxRecDepth 100000 in
theorem ententeref03_Digits.calls (k : Nat) : ∀ (a0 : Int) (r : ByteArray) (w : World) (h : ententeref03_Digits.f k a0 = some r),
  Calls Tryd.prog 41 #[.int .i64 a0] w fun e w' => e = .returned (.string r) ∧ Drawn0 w w' := by
 induction k using Nat.strongRecOn with
 | _ k ih =>
 intro a0 r w h
 cases k with
 | zero => exact absurd h (by simp [ententeref03_Digits.f])
 | succ k =>
 simp only [ententeref03_Digits.f] at h
 have H : (if a0 < 10 then (if 0 ≤ a0 then (if a0 ≤ (wrap64 (a0 + 1)) then (if (wrap64 (a0 + 1)) ≤ 10 then (some ((⟨#[48, 49, 50, 51, 52, 53, 54, 55, 56, 57]⟩ : ByteArray).extract (a0 : Int).toNat ((wrap64 (a0 + 1)) : Int).toNat)) else (none)) else (none)) else (none)) else ((ententeref03_Digits.f k (wrap64 (Int.tdiv a0 10))).bind fun t254 => ((ententeref03_Digits.f k (Int.tmod a0 10)).bind fun t255 => (if t254.size + t255.size ≤ 9223372036854775807 then (some (t254 ++ t255)) else (none))))) = some r := h
 clear h
 by_cases c2 : a0 < 10
 ·rw [if_pos c2] at H
  have c2b0 : decide (a0 < 10) = true := decide_eq_true c2
  clear c2
  by_cases c3 : 0 ≤ a0
  ·rw [if_pos c3] at H
   have c3b0 := eq_true c3
   have c3b1 : decide (0 ≤ a0) = true := decide_eq_true c3
   clear c3
   by_cases c4 : a0 ≤ (wrap64 (a0 + 1))
   ·rw [if_pos c4] at H
    have c4b0 := eq_true c4
    have c4b1 : decide (a0 ≤ (wrap64 (a0 + 1))) = true := decide_eq_true c4
    by_cases c5 : (wrap64 (a0 + 1)) ≤ 10
    ·rw [if_pos c5] at H
     have c5b0 := eq_true c5
     have c5b1 : decide ((wrap64 (a0 + 1)) ≤ 10) = true := decide_eq_true c5
     obtain rfl := Option.some.inj H
     go_enter Tryd.func41, Tryd.ntmps41
     go_wp2
     go_ret
     exact ⟨by first | rfl | (simp; done) | (simp [*]; done), by repeat (first | exact Drawn0.refl _ | apply Drawn0.step)⟩
    ·rw [if_neg c5] at H
     exact absurd H (by simp)
   ·rw [if_neg c4] at H
    exact absurd H (by simp)
  ·rw [if_neg c3] at H
   exact absurd H (by simp)
 ·rw [if_neg c2] at H
  have c2b0 : decide (a0 < 10) = false := decide_eq_false c2
  clear c2
  replace H := Option.bind_eq_some_iff.mp H
  obtain ⟨t254, A60, H⟩ := H
  replace H : ((ententeref03_Digits.f k (Int.tmod a0 10)).bind fun t255 => (if t254.size + t255.size ≤ 9223372036854775807 then (some (t254 ++ t255)) else (none))) = some r := H
  have A6 := Aside0.mk A60
  clear A60
  replace H := Option.bind_eq_some_iff.mp H
  obtain ⟨t255, A70, H⟩ := H
  replace H : (if t254.size + t255.size ≤ 9223372036854775807 then (some (t254 ++ t255)) else (none)) = some r := H
  have A7 := Aside0.mk A70
  clear A70
  by_cases c8 : t254.size + t255.size ≤ 9223372036854775807
  ·rw [if_pos c8] at H
   have c8b0 := eq_true c8
   have c8b1 : decide (t254.size + t255.size ≤ 9223372036854775807) = true := decide_eq_true c8
   try have c8b2 : (9223372036854775807 < t254.size + t255.size) = False := eq_false (Nat.not_lt.2 c8)
   obtain rfl := Option.some.inj H
   go_enter Tryd.func41, Tryd.ntmps41
   go_wp2_with (first | ((with_reducible refine gate_callee (f := 41) rfl ?_); refine goesL_ (some 11) rfl rfl Tryd.func41 (by kernel_rfl) rfl #[.int .i64 (wrap64 (Int.tdiv a0 10))] rfl (by (try simp only [List.map_toArray, List.map_cons, List.map_nil]); first | done | rfl | (simp only [List.length_drop, List.length_take]; rfl)) ?_; (with_reducible refine (ih k (by omega) (wrap64 (Int.tdiv a0 10)) t254 _ A6.out).mono ?_); rintro e w' ⟨rfl, ⟨nd, rfl⟩⟩; refine ⟨_, rfl, ?_⟩) | ((with_reducible refine gate_callee (f := 41) rfl ?_); refine goesL_ (some 14) rfl rfl Tryd.func41 (by kernel_rfl) rfl #[.int .i64 (Int.tmod a0 10)] rfl (by (try simp only [List.map_toArray, List.map_cons, List.map_nil]); first | done | rfl | (simp only [List.length_drop, List.length_take]; rfl)) ?_; (with_reducible refine (ih k (by omega) (Int.tmod a0 10) t255 _ A7.out).mono ?_); rintro e w' ⟨rfl, ⟨nd, rfl⟩⟩; refine ⟨_, rfl, ?_⟩))
   go_ret
   exact ⟨by first | rfl | (simp; done) | (simp [*]; done), by repeat (first | exact Drawn0.refl _ | apply Drawn0.step)⟩
  ·rw [if_neg c8] at H
   exact absurd H (by simp)

/-! ### ententeref03_Show: function 22 -/
def ententeref03_Show.l0 : Nat → ByteArray → Int → Int → Int → List (S55) → Option (ByteArray × Int)
 | 0, _, _, _, _, _ => none
 | k + 1, x4, x5, x257000, x257001, x257002 => if x5 < (x257002.length : Int) then (if x4.size + 1 ≤ 9223372036854775807 then (if 0 ≤ x5 then ((ententeref03_Digits.f k ((rd_T55 x257002 x5).f0)).bind fun t261 => (if x4.size + 1 + t261.size ≤ 9223372036854775807 then (if x4.size + 1 + t261.size + 1 ≤ 9223372036854775807 then ((ententeref03_Digits.f k ((rd_T55 x257002 x5).f1)).bind fun t263 => (if x4.size + 1 + t261.size + 1 + t263.size ≤ 9223372036854775807 then (ententeref03_Show.l0 k ((((x4 ++ (⟨#[47]⟩ : ByteArray)) ++ t261) ++ (⟨#[64]⟩ : ByteArray)) ++ t263) (wrap64 (x5 + 1)) x257000 x257001 x257002) else (none))) else (none)) else (none))) else (none)) else (none)) else (some (x4, 0))
def ententeref03_Show.f (k : Nat) (a0_0 : Int) (a0_1 : Int) (l0_2 : List (S55)) : Option (ByteArray × Int) := (ententeref03_Check.f k a0_0 a0_1 l0_2).bind fun t257 => (if t257 = 0 then ((ententeref03_Digits.f k a0_0).bind fun t258 => (if t258.size + 1 ≤ 9223372036854775807 then ((ententeref03_Digits.f k a0_1).bind fun t259 => (if t258.size + 1 + t259.size ≤ 9223372036854775807 then (ententeref03_Show.l0 k ((t258 ++ (⟨#[46]⟩ : ByteArray)) ++ t259) 0 a0_0 a0_1 l0_2) else (none))) else (none))) else (some ((⟨#[]⟩ : ByteArray), 30)))
theorem ententeref03_Show.mono_l : ∀ k, (∀ y0 y1 y2 y3 y4, LeO (ententeref03_Show.l0 k y0 y1 y2 y3 y4) (ententeref03_Show.l0 (k + 1) y0 y1 y2 y3 y4))
 | 0 => fun _ _ _ _ _ r h => by simp [ententeref03_Show.l0] at h
 | k + 1 => by
  have ih0 := ententeref03_Show.mono_l k
  ·intro y0 y1 y2 y3 y4
   unfold ententeref03_Show.l0
   repeat' first
   | (with_reducible exact ih0 _ _ _ _ _)
   | (with_reducible exact ententeref03_Check.mono _ _ _ _)
   | (with_reducible exact ententeref03_Digits.mono _ _)
   | (with_reducible exact LeO.refl _)
   | (with_reducible exact LeO.none _)
   | (with_reducible refine LeO.ite ?_ ?_)
   | (with_reducible refine LeO.bind ?_ (fun _ => ?_))
   | exact ih0 _ _ _ _ _
   | exact ententeref03_Check.mono _ _ _ _
   | exact ententeref03_Digits.mono _ _
   | exact LeO.none _
   | refine LeO.ite ?_ ?_
   | refine LeO.bind ?_ (fun _ => ?_)
theorem ententeref03_Show.mono : ∀ a0 a1 a2 k, LeO (ententeref03_Show.f k a0 a1 a2) (ententeref03_Show.f (k + 1) a0 a1 a2) := by
 intro a0 a1 a2 k
 have ih0 := ententeref03_Show.mono_l k
 unfold ententeref03_Show.f
 repeat' first
   | (with_reducible exact ih0 _ _ _ _ _)
   | (with_reducible exact ententeref03_Check.mono _ _ _ _)
   | (with_reducible exact ententeref03_Digits.mono _ _)
   | (with_reducible exact LeO.refl _)
   | (with_reducible exact LeO.none _)
   | (with_reducible refine LeO.ite ?_ ?_)
   | (with_reducible refine LeO.bind ?_ (fun _ => ?_))
   | exact ih0 _ _ _ _ _
   | exact ententeref03_Check.mono _ _ _ _
   | exact ententeref03_Digits.mono _ _
   | exact LeO.none _
   | refine LeO.ite ?_ ?_
   | refine LeO.bind ?_ (fun _ => ?_)
set_option maxHeartbeats 8000000 in
set_option maxRecDepth 100000 in
theorem ententeref03_Show.calls (k : Nat) (a0_0 : Int) (a0_1 : Int) (A0_2 : Option Addr) (c0_2 : Nat) (l0_2 : List (S55)) (r1 : ByteArray) (r2 : Int) (w : World) (hr0_2 : Kd.C k55 w A0_2 l0_2.length l0_2) (hc0_2 : l0_2.length ≤ c0_2) (h : ententeref03_Show.f k a0_0 a0_1 l0_2 = some (r1, r2)) :
  Calls Tryd.prog 22 #[.agg #[.int .i64 a0_0, .int .i64 a0_1, .slice A0_2 l0_2.length c0_2]] w fun e w' => e = .returned (.tuple #[.string r1, .int .i64 r2]) ∧ Below w.heap.size w w' := by
 have hu24 := Tryd.underlying24
 have HR0_2 := Aside0.mk hr0_2
 have HC0_2 := Aside0.mk hc0_2
 clear hr0_2 hc0_2
 have HB := Aside0.mk (Below.refl w.heap.size w)
 have H : ((ententeref03_Check.f k a0_0 a0_1 l0_2).bind fun t257 => (if t257 = 0 then ((ententeref03_Digits.f k a0_0).bind fun t258 => (if t258.size + 1 ≤ 9223372036854775807 then ((ententeref03_Digits.f k a0_1).bind fun t259 => (if t258.size + 1 + t259.size ≤ 9223372036854775807 then (ententeref03_Show.l0 k ((t258 ++ (⟨#[46]⟩ : ByteArray)) ++ t259) 0 a0_0 a0_1 l0_2) else (none))) else (none))) else (some ((⟨#[]⟩ : ByteArray), 30)))) = some (r1, r2) := h
 clear h
 replace H := Option.bind_eq_some_iff.mp H
 obtain ⟨t257, A20, H⟩ := H
 replace H : (if t257 = 0 then ((ententeref03_Digits.f k a0_0).bind fun t258 => (if t258.size + 1 ≤ 9223372036854775807 then ((ententeref03_Digits.f k a0_1).bind fun t259 => (if t258.size + 1 + t259.size ≤ 9223372036854775807 then (ententeref03_Show.l0 k ((t258 ++ (⟨#[46]⟩ : ByteArray)) ++ t259) 0 a0_0 a0_1 l0_2) else (none))) else (none))) else (some ((⟨#[]⟩ : ByteArray), 30))) = some (r1, r2) := H
 have A2 := Aside0.mk A20
 clear A20
 by_cases c3 : t257 = 0
 ·rw [if_pos c3] at H
  have c3b0 : (t257 == 0) = true := beq_iff_eq.mpr c3
  have c3b1 : (t257 != 0) = false := bne_eq_false_iff_eq.mpr c3
  clear c3
  replace H := Option.bind_eq_some_iff.mp H
  obtain ⟨t258, A40, H⟩ := H
  replace H : (if t258.size + 1 ≤ 9223372036854775807 then ((ententeref03_Digits.f k a0_1).bind fun t259 => (if t258.size + 1 + t259.size ≤ 9223372036854775807 then (ententeref03_Show.l0 k ((t258 ++ (⟨#[46]⟩ : ByteArray)) ++ t259) 0 a0_0 a0_1 l0_2) else (none))) else (none)) = some (r1, r2) := H
  have A4 := Aside0.mk A40
  clear A40
  by_cases c5 : t258.size + 1 ≤ 9223372036854775807
  ·rw [if_pos c5] at H
   have c5b0 := eq_true c5
   have c5b1 : decide (t258.size + 1 ≤ 9223372036854775807) = true := decide_eq_true c5
   try have c5b2 : (9223372036854775807 < t258.size + 1) = False := eq_false (Nat.not_lt.2 c5)
   replace H := Option.bind_eq_some_iff.mp H
   obtain ⟨t259, A60, H⟩ := H
   replace H : (if t258.size + 1 + t259.size ≤ 9223372036854775807 then (ententeref03_Show.l0 k ((t258 ++ (⟨#[46]⟩ : ByteArray)) ++ t259) 0 a0_0 a0_1 l0_2) else (none)) = some (r1, r2) := H
   have A6 := Aside0.mk A60
   clear A60
   by_cases c7 : t258.size + 1 + t259.size ≤ 9223372036854775807
   ·rw [if_pos c7] at H
    have c7b0 := eq_true c7
    have c7b1 : decide (t258.size + 1 + t259.size ≤ 9223372036854775807) = true := decide_eq_true c7
    try have c7b2 : (9223372036854775807 < t258.size + 1 + t259.size) = False := eq_false (Nat.not_lt.2 c7)
    have H' := Aside0.mk H
    clear H
    go_enter Tryd.func22, Tryd.ntmps22
    go_wp2_with (first | ((with_reducible refine gate_dst (N := 1) rfl ?_); refine box_event ?hg (N := 1) ?hd (cs := #[.int .i64 a0_0, .int .i64 a0_1, .slice A0_2 l0_2.length c0_2]) (t := 24) ?hr ?_; (case hd => rfl); (case hg => rfl); (case hr => first | (go_simp; done) | (go_simp; rfl)); intro gb256 hg w8 hbox hb; have n0_ := Aside0.mk (below_step HB.out hb); have n1_ := Aside0.mk (hbox); have n2_ := Aside0.mk ((by rw [hg]; exact (below_size HB.out) : w.heap.size ≤ gb256)); have n3_ := Aside0.mk ((by rw [hg]; exact (below_size HB.out) : w.heap.size ≤ gb256)); clear HB; have HB := n0_; have BK256 := n1_; have GW256 := n2_; have GE256 := n3_; clear n0_ n1_ n2_ n3_; clear hb hbox hg; have hcz9_0 : w8.cell? ⟨gb256, 0, none⟩ = some (.int .i64 a0_0) := (blk_cell BK256.out 0).trans rfl; have hcz9_1 : w8.cell? ⟨gb256, 1, none⟩ = some (.int .i64 a0_1) := (blk_cell BK256.out 1).trans rfl; have hcz9_2 : w8.cell? ⟨gb256, 2, none⟩ = some (.slice A0_2 l0_2.length c0_2) := (blk_cell BK256.out 2).trans rfl; have hfz9_0 := blk_frozen BK256.out 0; have hfz9_1 := blk_frozen BK256.out 1; have hfz9_2 := blk_frozen BK256.out 2) | (go_at_call 26; (with_reducible refine (ententeref03_Check.calls k a0_0 a0_1 _ _ l0_2 t257 _ ?side1 ?side2 A2.out).mono ?_); (case side1 => exact (Kd.C_below HR0_2.out HB.out)); (case side2 => exact HC0_2.out); rintro e w10 ⟨rfl, hb⟩; have n0_ := Aside0.mk (blk_below (g := gb256) (o := .cells #[.int .i64 a0_0, .int .i64 a0_1, .slice A0_2 l0_2.length c0_2] 24 (0, 0)) (by exact BK256.out) hb); have n1_ := Aside0.mk (below_step HB.out hb); clear BK256; clear HB; have BK256 := n0_; have HB := n1_; clear n0_ n1_; (try clear hb); (try clear hb2); (try clear hk); (try clear hi); have hcz11_0 : w10.cell? ⟨gb256, 0, none⟩ = some (.int .i64 a0_0) := (blk_cell BK256.out 0).trans rfl; have hcz11_1 : w10.cell? ⟨gb256, 1, none⟩ = some (.int .i64 a0_1) := (blk_cell BK256.out 1).trans rfl; have hcz11_2 : w10.cell? ⟨gb256, 2, none⟩ = some (.slice A0_2 l0_2.length c0_2) := (blk_cell BK256.out 2).trans rfl; have hfz11_0 := blk_frozen BK256.out 0; have hfz11_1 := blk_frozen BK256.out 1; have hfz11_2 := blk_frozen BK256.out 2))
    repeat (go_quiet (first | (go_at_call 41; (with_reducible refine (ententeref03_Digits.calls k a0_0 t258 _ A4.out).mono ?_); rintro e w' ⟨rfl, ⟨nd, rfl⟩⟩; (try first | exact ⟨rfl, _, World.drewN_drewN _ _ _⟩ | exact ⟨rfl, _, Eq.trans (World.drewN_drewN _ _ _) (congrArg (World.drewN _) (Nat.add_assoc _ _ _))⟩)) | (go_at_call 41; (with_reducible refine (ententeref03_Digits.calls k a0_1 t259 _ A6.out).mono ?_); rintro e w' ⟨rfl, ⟨nd, rfl⟩⟩; (try first | exact ⟨rfl, _, World.drewN_drewN _ _ _⟩ | exact ⟨rfl, _, Eq.trans (World.drewN_drewN _ _ _) (congrArg (World.drewN _) (Nat.add_assoc _ _ _))⟩))); try go_wp2_with (fail))
    go_loopg [4, 5] k (fun kq v4 v5 w' => ∃ (x4_1 : ByteArray) (x5_1 : Int), v4 = .string x4_1 ∧ v5 = .int .i64 x5_1 ∧ Aside0 (ententeref03_Show.l0 kq x4_1 x5_1 a0_0 a0_1 l0_2 = some (r1, r2)) ∧ Aside0 (kq ≤ k) ∧ Aside0 (w'.heap[gb256]? = some (.cells #[.int .i64 a0_0, .int .i64 a0_1, (.slice A0_2 l0_2.length c0_2)] 24 (0, 0))) ∧ Aside0 (Below w.heap.size w w'))
    case atStart => exact ⟨((t258 ++ (⟨#[46]⟩ : ByteArray)) ++ t259), (0), (by first | rfl | (simp; done) | (simp [*]; done)), (by first | rfl | (simp; done) | (simp [*]; done)), H', ⟨Nat.le_refl _⟩, ⟨by (with_reducible repeat (first | refine blk_drewN ?_ _ | refine blk_drew ?_ | refine blk_alloc ?_ _)); exact BK256.out⟩, ⟨by repeat (first | (with_reducible first | exact HB.out | apply below_alloc | apply pw_below_drewN | apply below_drew1 | refine below_set ?_ GE256.out) | exact HB.out)⟩⟩
    case round =>
     clear H'
     try clear c2
     try clear p2
     try clear c3
     try clear c3b0
     try clear c3b1
     try clear c5
     try clear c5b0
     try clear c5b1
     try clear c5b2
     try clear c7
     try clear c7b0
     try clear c7b1
     try clear c7b2
     try clear hcz11_0
     try clear hcz11_1
     try clear hcz11_2
     try clear hcz9_0
     try clear hcz9_1
     try clear hcz9_2
     try clear hfz11_0
     try clear hfz11_1
     try clear hfz11_2
     try clear hfz9_0
     try clear hfz9_1
     try clear hfz9_2
     obtain ⟨x4_1, x5_1, rfl, rfl, HA, HK1, BK256, HB⟩ := hrel
     cases gk with
     | zero => exact absurd HA.out (by simp [ententeref03_Show.l0])
     | succ k1 =>
      have H := HA.out
      clear HA
      simp only [ententeref03_Show.l0] at H
      by_cases c12 : x5_1 < (l0_2.length : Int)
      ·rw [if_pos c12] at H
       have c12b0 : decide (x5_1 < (l0_2.length : Int)) = true := decide_eq_true c12
       clear c12
       by_cases c13 : x4_1.size + 1 ≤ 9223372036854775807
       ·rw [if_pos c13] at H
        have c13b0 := eq_true c13
        have c13b1 : decide (x4_1.size + 1 ≤ 9223372036854775807) = true := decide_eq_true c13
        try have c13b2 : (9223372036854775807 < x4_1.size + 1) = False := eq_false (Nat.not_lt.2 c13)
        by_cases c14 : 0 ≤ x5_1
        ·rw [if_pos c14] at H
         have c14b0 : decide (0 ≤ x5_1) = true := decide_eq_true c14
         clear c14
         replace H := Option.bind_eq_some_iff.mp H
         obtain ⟨t261, A150, H⟩ := H
         replace H : (if x4_1.size + 1 + t261.size ≤ 9223372036854775807 then (if x4_1.size + 1 + t261.size + 1 ≤ 9223372036854775807 then ((ententeref03_Digits.f k1 ((rd_T55 l0_2 x5_1).f1)).bind fun t263 => (if x4_1.size + 1 + t261.size + 1 + t263.size ≤ 9223372036854775807 then (ententeref03_Show.l0 k1 ((((x4_1 ++ (⟨#[47]⟩ : ByteArray)) ++ t261) ++ (⟨#[64]⟩ : ByteArray)) ++ t263) (wrap64 (x5_1 + 1)) a0_0 a0_1 l0_2) else (none))) else (none)) else (none)) = some (r1, r2) := H
         have A15 := Aside0.mk A150
         clear A150
         by_cases c16 : x4_1.size + 1 + t261.size ≤ 9223372036854775807
         ·rw [if_pos c16] at H
          have c16b0 := eq_true c16
          have c16b1 : decide (x4_1.size + 1 + t261.size ≤ 9223372036854775807) = true := decide_eq_true c16
          try have c16b2 : (9223372036854775807 < x4_1.size + 1 + t261.size) = False := eq_false (Nat.not_lt.2 c16)
          by_cases c17 : x4_1.size + 1 + t261.size + 1 ≤ 9223372036854775807
          ·rw [if_pos c17] at H
           have c17b0 := eq_true c17
           have c17b1 : decide (x4_1.size + 1 + t261.size + 1 ≤ 9223372036854775807) = true := decide_eq_true c17
           try have c17b2 : (9223372036854775807 < x4_1.size + 1 + t261.size + 1) = False := eq_false (Nat.not_lt.2 c17)
           replace H := Option.bind_eq_some_iff.mp H
           obtain ⟨t263, A180, H⟩ := H
           replace H : (if x4_1.size + 1 + t261.size + 1 + t263.size ≤ 9223372036854775807 then (ententeref03_Show.l0 k1 ((((x4_1 ++ (⟨#[47]⟩ : ByteArray)) ++ t261) ++ (⟨#[64]⟩ : ByteArray)) ++ t263) (wrap64 (x5_1 + 1)) a0_0 a0_1 l0_2) else (none)) = some (r1, r2) := H
           have A18 := Aside0.mk A180
           clear A180
           by_cases c19 : x4_1.size + 1 + t261.size + 1 + t263.size ≤ 9223372036854775807
           ·rw [if_pos c19] at H
            have c19b0 := eq_true c19
            have c19b1 : decide (x4_1.size + 1 + t261.size + 1 + t263.size ≤ 9223372036854775807) = true := decide_eq_true c19
            try have c19b2 : (9223372036854775807 < x4_1.size + 1 + t261.size + 1 + t263.size) = False := eq_false (Nat.not_lt.2 c19)
            have H' := Aside0.mk H
            clear H
            have hcz20_0 : wr.cell? ⟨gb256, 0, none⟩ = some (.int .i64 a0_0) := (blk_cell BK256.out 0).trans rfl
            have hcz20_1 : wr.cell? ⟨gb256, 1, none⟩ = some (.int .i64 a0_1) := (blk_cell BK256.out 1).trans rfl
            have hcz20_2 : wr.cell? ⟨gb256, 2, none⟩ = some (.slice A0_2 l0_2.length c0_2) := (blk_cell BK256.out 2).trans rfl
            have hfz20_0 := blk_frozen BK256.out 0
            have hfz20_1 := blk_frozen BK256.out 1
            have hfz20_2 := blk_frozen BK256.out 2
            have p260 : 0 ≤ (x5_1 : Int) := of_decide_eq_true (by first | (with_reducible assumption) | assumption)
            have q260 : x5_1 < (l0_2.length : Int) := of_decide_eq_true (by first | (with_reducible assumption) | assumption)
            obtain ⟨ad260, e260, hx260_0, hx260_1⟩ := at_T55 HR0_2.out x5_1 p260 q260
            cases e260
            try replace hx260_0 := (HB.out.cell (World.block_lt_of_cell? w _ hx260_0)).trans hx260_0
            try replace hx260_1 := (HB.out.cell (World.block_lt_of_cell? w _ hx260_1)).trans hx260_1
            replace p260 := eq_true p260
            replace q260 := eq_true q260
            go_wp2_with (fail)
            repeat (go_quiet (first | (go_at_call 41; (with_reducible refine (ententeref03_Digits.calls k1 ((rd_T55 l0_2 x5_1).f0) t261 _ A15.out).mono ?_); rintro e w' ⟨rfl, ⟨nd, rfl⟩⟩; (try first | exact ⟨rfl, _, World.drewN_drewN _ _ _⟩ | exact ⟨rfl, _, Eq.trans (World.drewN_drewN _ _ _) (congrArg (World.drewN _) (Nat.add_assoc _ _ _))⟩); have p262 : 0 ≤ (x5_1 : Int) := of_decide_eq_true (by first | (with_reducible assumption) | assumption); have q262 : x5_1 < (l0_2.length : Int) := of_decide_eq_true (by first | (with_reducible assumption) | assumption); obtain ⟨ad262, e262, hx262_0, hx262_1⟩ := at_T55 HR0_2.out x5_1 p262 q262; obtain rfl : ad260 = ad262 := (by injection e262); replace hx262_0 := (HB.out.cell (World.block_lt_of_cell? w _ hx262_0)).trans hx262_0; replace hx262_1 := (HB.out.cell (World.block_lt_of_cell? w _ hx262_1)).trans hx262_1; replace p262 := eq_true p262; replace q262 := eq_true q262) | (go_at_call 41; (with_reducible refine (ententeref03_Digits.calls k1 ((rd_T55 l0_2 x5_1).f1) t263 _ A18.out).mono ?_); rintro e w' ⟨rfl, ⟨nd, rfl⟩⟩; (try first | exact ⟨rfl, _, World.drewN_drewN _ _ _⟩ | exact ⟨rfl, _, Eq.trans (World.drewN_drewN _ _ _) (congrArg (World.drewN _) (Nat.add_assoc _ _ _))⟩))); try go_wp2_with (fail))
            go_roundg k1
            case measure => have := HK1.out; omega
            case rel => exact ⟨((((x4_1 ++ (⟨#[47]⟩ : ByteArray)) ++ t261) ++ (⟨#[64]⟩ : ByteArray)) ++ t263), (wrap64 (x5_1 + 1)), (by first | rfl | (simp; done) | (simp [*]; done)), (by first | rfl | (simp; done) | (simp [*]; done)), H', ⟨by have := HK1.out; omega⟩, ⟨by (with_reducible repeat (first | refine blk_drewN ?_ _ | refine blk_drew ?_ | refine blk_alloc ?_ _)); exact BK256.out⟩, ⟨by repeat (first | (with_reducible first | exact HB.out | apply below_alloc | apply pw_below_drewN | apply below_drew1 | refine below_set ?_ GE256.out) | exact HB.out)⟩⟩
           ·rw [if_neg c19] at H
            exact absurd H (by simp)
          ·rw [if_neg c17] at H
           exact absurd H (by simp)
         ·rw [if_neg c16] at H
          exact absurd H (by simp)
        ·rw [if_neg c14] at H
         exact absurd H (by simp)
       ·rw [if_neg c13] at H
        exact absurd H (by simp)
      ·rw [if_neg c12] at H
       have c12b0 : decide (x5_1 < (l0_2.length : Int)) = false := decide_eq_false c12
       clear c12
       simp only [Option.some.injEq, Prod.mk.injEq] at H
       obtain ⟨rfl, rfl⟩ := H
       have hcz21_0 : wr.cell? ⟨gb256, 0, none⟩ = some (.int .i64 a0_0) := (blk_cell BK256.out 0).trans rfl
       have hcz21_1 : wr.cell? ⟨gb256, 1, none⟩ = some (.int .i64 a0_1) := (blk_cell BK256.out 1).trans rfl
       have hcz21_2 : wr.cell? ⟨gb256, 2, none⟩ = some (.slice A0_2 l0_2.length c0_2) := (blk_cell BK256.out 2).trans rfl
       have hfz21_0 := blk_frozen BK256.out 0
       have hfz21_1 := blk_frozen BK256.out 1
       have hfz21_2 := blk_frozen BK256.out 2
       go_wp2
       repeat (go_quiet (fail); try go_wp2)
       go_ret2
       exact ⟨by first | rfl | (simp [errW_none, errW_some] <;> rfl) | (simp [*, errW_none, errW_some] <;> rfl), HB.out⟩
   ·rw [if_neg c7] at H
    exact absurd H (by simp)
  ·rw [if_neg c5] at H
   exact absurd H (by simp)
 ·rw [if_neg c3] at H
  have c3b0 : (t257 == 0) = false := beq_eq_false_iff_ne.mpr c3
  have c3b1 : (t257 != 0) = true := bne_iff_ne.mpr c3
  simp only [Option.some.injEq, Prod.mk.injEq] at H
  obtain ⟨rfl, rfl⟩ := H
  go_enter Tryd.func22, Tryd.ntmps22
  go_wp2_with (first | ((with_reducible refine gate_dst (N := 1) rfl ?_); refine box_event ?hg (N := 1) ?hd (cs := #[.int .i64 a0_0, .int .i64 a0_1, .slice A0_2 l0_2.length c0_2]) (t := 24) ?hr ?_; (case hd => rfl); (case hg => rfl); (case hr => first | (go_simp; done) | (go_simp; rfl)); intro gb256 hg w22 hbox hb; have n0_ := Aside0.mk (below_step HB.out hb); have n1_ := Aside0.mk (hbox); have n2_ := Aside0.mk ((by rw [hg]; exact (below_size HB.out) : w.heap.size ≤ gb256)); have n3_ := Aside0.mk ((by rw [hg]; exact (below_size HB.out) : w.heap.size ≤ gb256)); clear HB; have HB := n0_; have BK256 := n1_; have GW256 := n2_; have GE256 := n3_; clear n0_ n1_ n2_ n3_; clear hb hbox hg; have hcz23_0 : w22.cell? ⟨gb256, 0, none⟩ = some (.int .i64 a0_0) := (blk_cell BK256.out 0).trans rfl; have hcz23_1 : w22.cell? ⟨gb256, 1, none⟩ = some (.int .i64 a0_1) := (blk_cell BK256.out 1).trans rfl; have hcz23_2 : w22.cell? ⟨gb256, 2, none⟩ = some (.slice A0_2 l0_2.length c0_2) := (blk_cell BK256.out 2).trans rfl; have hfz23_0 := blk_frozen BK256.out 0; have hfz23_1 := blk_frozen BK256.out 1; have hfz23_2 := blk_frozen BK256.out 2) | (go_at_call 26; (with_reducible refine (ententeref03_Check.calls k a0_0 a0_1 _ _ l0_2 t257 _ ?side1 ?side2 A2.out).mono ?_); (case side1 => exact (Kd.C_below HR0_2.out HB.out)); (case side2 => exact HC0_2.out); rintro e w24 ⟨rfl, hb⟩; have n0_ := Aside0.mk (blk_below (g := gb256) (o := .cells #[.int .i64 a0_0, .int .i64 a0_1, .slice A0_2 l0_2.length c0_2] 24 (0, 0)) (by exact BK256.out) hb); have n1_ := Aside0.mk (below_step HB.out hb); clear BK256; clear HB; have BK256 := n0_; have HB := n1_; clear n0_ n1_; (try clear hb); (try clear hb2); (try clear hk); (try clear hi)))
  repeat (go_quiet (fail); try go_wp2_with (fail))
  go_ret2
  exact ⟨by first | rfl | (simp [errW_none, errW_some] <;> rfl) | (simp [*, errW_none, errW_some] <;> rfl), HB.out⟩

/-! ### ententeref03_Number: function 44 -/
def ententeref03_Number.l0 : Nat → ByteArray → Int → Int → Int → Option (Int × Int × Bool)
 | 0, _, _, _, _ => none
 | k + 1, x0, x1, x7, x8 => if x8 < (x0.size : Int) then (if x8 < (wrap64 (x1 + 6)) then (if 0 ≤ x8 then (if (bt x0 x8) ≥ 48 then (if (bt x0 x8) ≤ 57 then (ententeref03_Number.l0 k x0 x1 (wrap64 ((wrap64 (10 * x7)) + (((bt x0 x8) - 48) % 256))) (wrap64 (x8 + 1))) else (some (x7, x8, decide (x8 > x1)))) else (some (x7, x8, decide (x8 > x1)))) else (none)) else (some (x7, x8, decide (x8 > x1)))) else (some (x7, x8, decide (x8 > x1)))
def ententeref03_Number.f (k : Nat) (a0 : ByteArray) (a1 : Int) : Option (Int × Int × Bool) := ententeref03_Number.l0 k a0 a1 0 a1
theorem ententeref03_Number.mono_l : ∀ k, (∀ y0 y1 y2 y3, LeO (ententeref03_Number.l0 k y0 y1 y2 y3) (ententeref03_Number.l0 (k + 1) y0 y1 y2 y3))
 | 0 => fun _ _ _ _ r h => by simp [ententeref03_Number.l0] at h
 | k + 1 => by
  have ih0 := ententeref03_Number.mono_l k
  ·intro y0 y1 y2 y3
   unfold ententeref03_Number.l0
   repeat' first
   | (with_reducible exact ih0 _ _ _ _)
   | (with_reducible exact LeO.refl _)
   | (with_reducible exact LeO.none _)
   | (with_reducible refine LeO.ite ?_ ?_)
   | (with_reducible refine LeO.bind ?_ (fun _ => ?_))
   | exact ih0 _ _ _ _
   | exact LeO.none _
   | refine LeO.ite ?_ ?_
   | refine LeO.bind ?_ (fun _ => ?_)
theorem ententeref03_Number.mono : ∀ a0 a1 k, LeO (ententeref03_Number.f k a0 a1) (ententeref03_Number.f (k + 1) a0 a1) := by
 intro a0 a1 k
 have ih0 := ententeref03_Number.mono_l k
 unfold ententeref03_Number.f
 repeat' first
   | (with_reducible exact ih0 _ _ _ _)
   | (with_reducible exact LeO.refl _)
   | (with_reducible exact LeO.none _)
   | (with_reducible refine LeO.ite ?_ ?_)
   | (with_reducible refine LeO.bind ?_ (fun _ => ?_))
   | exact ih0 _ _ _ _
   | exact LeO.none _
   | refine LeO.ite ?_ ?_
   | refine LeO.bind ?_ (fun _ => ?_)
set_option maxHeartbeats 8000000 in
set_option maxRecDepth 100000 in
theorem ententeref03_Number.calls (k : Nat) (a0 : ByteArray) (a1 : Int) (r1 : Int) (r2 : Int) (r3 : Bool) (w : World) (h : ententeref03_Number.f k a0 a1 = some (r1, r2, r3)) :
  Calls Tryd.prog 44 #[.string a0, .int .i64 a1] w fun e w' => e = .returned (.tuple #[.int .i64 r1, .int .i64 r2, .bool r3]) ∧ Drawn0 w w' := by
 have H : (ententeref03_Number.l0 k a0 a1 0 a1) = some (r1, r2, r3) := h
 clear h
 have H' := Aside0.mk H
 clear H
 go_enter Tryd.func44, Tryd.ntmps44
 go_wp2
 go_loopg [7, 8] k (fun kq v7 v8 w' => ∃ (x7_1 : Int) (x8_1 : Int), v7 = .int .i64 x7_1 ∧ v8 = .int .i64 x8_1 ∧ Aside0 (ententeref03_Number.l0 kq a0 a1 x7_1 x8_1 = some (r1, r2, r3)) ∧ Aside0 (kq ≤ k) ∧ Drawn0 w w')
 case atStart => exact ⟨(0), (a1), (by first | rfl | (simp; done) | (simp [*]; done)), (by first | rfl | (simp; done) | (simp [*]; done)), H', ⟨Nat.le_refl _⟩, by repeat (first | exact Drawn0.refl _ | apply Drawn0.step)⟩
 case round =>
  clear H'
  try clear p2
  obtain ⟨x7_1, x8_1, rfl, rfl, HA, HK1, ⟨m1, rfl⟩⟩ := hrel
  cases gk with
  | zero => exact absurd HA.out (by simp [ententeref03_Number.l0])
  | succ k1 =>
   have H := HA.out
   clear HA
   simp only [ententeref03_Number.l0] at H
   by_cases c3 : x8_1 < (a0.size : Int)
   ·rw [if_pos c3] at H
    have c3b0 : decide (x8_1 < (a0.size : Int)) = true := decide_eq_true c3
    clear c3
    by_cases c4 : x8_1 < (wrap64 (a1 + 6))
    ·rw [if_pos c4] at H
     have c4b0 : decide (x8_1 < (wrap64 (a1 + 6))) = true := decide_eq_true c4
     clear c4
     by_cases c5 : 0 ≤ x8_1
     ·rw [if_pos c5] at H
      have c5b0 : decide (0 ≤ x8_1) = true := decide_eq_true c5
      clear c5
      by_cases c7 : (bt a0 x8_1) ≥ 48
      ·rw [if_pos c7] at H
       have c7b0 : decide (48 ≤ (bt a0 x8_1)) = true := decide_eq_true c7
       clear c7
       by_cases c9 : (bt a0 x8_1) ≤ 57
       ·rw [if_pos c9] at H
        have c9b0 : decide ((bt a0 x8_1) ≤ 57) = true := decide_eq_true c9
        clear c9
        have H' := Aside0.mk H
        clear H
        have p6 : 0 ≤ (x8_1 : Int) := of_decide_eq_true (by first | (with_reducible assumption) | assumption)
        have q6 : x8_1 < (a0.size : Int) := of_decide_eq_true (by first | (with_reducible assumption) | assumption)
        have hx6 := bt_at a0 x8_1
        replace p6 := eq_true p6
        replace q6 := eq_true q6
        have p8 : 0 ≤ (x8_1 : Int) := of_decide_eq_true (by first | (with_reducible assumption) | assumption)
        have q8 : x8_1 < (a0.size : Int) := of_decide_eq_true (by first | (with_reducible assumption) | assumption)
        have hx8 := bt_at a0 x8_1
        replace p8 := eq_true p8
        replace q8 := eq_true q8
        have p10 : 0 ≤ (x8_1 : Int) := of_decide_eq_true (by first | (with_reducible assumption) | assumption)
        have q10 : x8_1 < (a0.size : Int) := of_decide_eq_true (by first | (with_reducible assumption) | assumption)
        have hx10 := bt_at a0 x8_1
        replace p10 := eq_true p10
        replace q10 := eq_true q10
        go_wp2
        go_roundg k1
        case measure => have := HK1.out; omega
        case rel => exact ⟨(wrap64 ((wrap64 (10 * x7_1)) + (((bt a0 x8_1) - 48) % 256))), (wrap64 (x8_1 + 1)), (by first | rfl | (simp; done) | (simp [*]; done)), (by first | rfl | (simp; done) | (simp [*]; done)), H', ⟨by have := HK1.out; omega⟩, by repeat (first | exact Drawn0.refl _ | apply Drawn0.step)⟩
       ·rw [if_neg c9] at H
        have c9b0 : decide ((bt a0 x8_1) ≤ 57) = false := decide_eq_false c9
        clear c9
        simp only [Option.some.injEq, Prod.mk.injEq] at H
        obtain ⟨rfl, rfl, rfl⟩ := H
        have p6 : 0 ≤ (x8_1 : Int) := of_decide_eq_true (by first | (with_reducible assumption) | assumption)
        have q6 : x8_1 < (a0.size : Int) := of_decide_eq_true (by first | (with_reducible assumption) | assumption)
        have hx6 := bt_at a0 x8_1
        replace p6 := eq_true p6
        replace q6 := eq_true q6
        have p8 : 0 ≤ (x8_1 : Int) := of_decide_eq_true (by first | (with_reducible assumption) | assumption)
        have q8 : x8_1 < (a0.size : Int) := of_decide_eq_true (by first | (with_reducible assumption) | assumption)
        have hx8 := bt_at a0 x8_1
        replace p8 := eq_true p8
        replace q8 := eq_true q8
        go_wp2
        go_ret3
        exact ⟨by first | rfl | (simp; done) | (simp [*]; done), by repeat (first | exact Drawn0.refl _ | apply Drawn0.step)⟩
      ·rw [if_neg c7] at H
       have c7b0 : decide (48 ≤ (bt a0 x8_1)) = false := decide_eq_false c7
       clear c7
       simp only [Option.some.injEq, Prod.mk.injEq] at H
       obtain ⟨rfl, rfl, rfl⟩ := H
       have p6 : 0 ≤ (x8_1 : Int) := of_decide_eq_true (by first | (with_reducible assumption) | assumption)
       have q6 : x8_1 < (a0.size : Int) := of_decide_eq_true (by first | (with_reducible assumption) | assumption)
       have hx6 := bt_at a0 x8_1
       replace p6 := eq_true p6
       replace q6 := eq_true q6
       go_wp2
       go_ret3
       exact ⟨by first | rfl | (simp; done) | (simp [*]; done), by repeat (first | exact Drawn0.refl _ | apply Drawn0.step)⟩
     ·rw [if_neg c5] at H
      exact absurd H (by simp)
    ·rw [if_neg c4] at H
     have c4b0 : decide (x8_1 < (wrap64 (a1 + 6))) = false := decide_eq_false c4
     clear c4
     simp only [Option.some.injEq, Prod.mk.injEq] at H
     obtain ⟨rfl, rfl, rfl⟩ := H
     go_wp2
     go_ret3
     exact ⟨by first | rfl | (simp; done) | (simp [*]; done), by repeat (first | exact Drawn0.refl _ | apply Drawn0.step)⟩
   ·rw [if_neg c3] at H
    have c3b0 : decide (x8_1 < (a0.size : Int)) = false := decide_eq_false c3
    clear c3
    simp only [Option.some.injEq, Prod.mk.injEq] at H
    obtain ⟨rfl, rfl, rfl⟩ := H
    go_wp2
    go_ret3
    exact ⟨by first | rfl | (simp; done) | (simp [*]; done), by repeat (first | exact Drawn0.refl _ | apply Drawn0.step)⟩

/-! ### ententeref03_Parse: function 24 -/
mutual
def ententeref03_Parse.j0 : Nat → ByteArray → Int → Bool → Int → Int → Option (Int × Int × (List (S55)) × Int)
 | 0, _, _, _, _, _ => none
 | k + 1, x0, x6, x33, x266000, x266001 => if x33 = true then (some (0, 0, ([] : List (S55)), 30)) else ((ententeref03_Number.f k x0 (wrap64 (x6 + 1))).bind fun bt269 => (ententeref03_Parse.l0 k x0 bt269.2.1 bt269.2.2 x266000 bt269.1 ([] : List (S55))))
def ententeref03_Parse.l0 : Nat → ByteArray → Int → Bool → Int → Int → List (S55) → Option (Int × Int × (List (S55)) × Int)
 | 0, _, _, _, _, _, _ => none
 | k + 1, x0, x6, x7, x266000, x266001, x266002 => if x7 = true then (if x6 < (x0.size : Int) then (ententeref03_Parse.j2 k x0 x6 x7 (decide ((x266002.length : Int) < 5)) x266000 x266001 x266002) else (ententeref03_Parse.j2 k x0 x6 x7 false x266000 x266001 x266002)) else (ententeref03_Parse.j2 k x0 x6 x7 false x266000 x266001 x266002)
def ententeref03_Parse.j2 : Nat → ByteArray → Int → Bool → Bool → Int → Int → List (S55) → Option (Int × Int × (List (S55)) × Int)
 | 0, _, _, _, _, _, _, _ => none
 | k + 1, x0, x6, x7, x57, x266000, x266001, x266002 => if x57 = true then ((ententeref03_Number.f k x0 (wrap64 (x6 + 1))).bind fun bt274 => (if bt274.2.2 = true then (if bt274.2.1 = (x0.size : Int) then (some (0, 0, ([] : List (S55)), 30)) else ((ententeref03_Number.f k x0 (wrap64 (bt274.2.1 + 1))).bind fun bt277 => (if x266002.length < 8796093022208 then (ententeref03_Parse.l0 k x0 bt277.2.1 bt277.2.2 x266000 x266001 (x266002 ++ [(⟨bt274.1, bt277.1⟩ : S55)])) else (none)))) else (some (0, 0, ([] : List (S55)), 30)))) else ((ententeref03_Show.f k x266000 x266001 x266002).bind fun bt272 => (if x7 = true then (if bt272.2 = 0 then (if bt272.1.toList = x0.toList then (some (x266000, x266001, x266002, 0)) else (some (0, 0, ([] : List (S55)), 30))) else (some (0, 0, ([] : List (S55)), 30))) else (some (0, 0, ([] : List (S55)), 30))))
end
def ententeref03_Parse.f (k : Nat) (a0 : ByteArray) : Option (Int × Int × (List (S55)) × Int) := (ententeref03_Number.f k a0 0).bind fun bt266 => (if bt266.2.2 = true then (ententeref03_Parse.j0 k a0 bt266.2.1 (bt266.2.1 == (a0.size : Int)) bt266.1 0) else (ententeref03_Parse.j0 k a0 bt266.2.1 true bt266.1 0))
theorem ententeref03_Parse.mono_l : ∀ k, (∀ y0 y1 y2 y3 y4, LeO (ententeref03_Parse.j0 k y0 y1 y2 y3 y4) (ententeref03_Parse.j0 (k + 1) y0 y1 y2 y3 y4)) ∧ (∀ y0 y1 y2 y3 y4 y5, LeO (ententeref03_Parse.l0 k y0 y1 y2 y3 y4 y5) (ententeref03_Parse.l0 (k + 1) y0 y1 y2 y3 y4 y5)) ∧ (∀ y0 y1 y2 y3 y4 y5 y6, LeO (ententeref03_Parse.j2 k y0 y1 y2 y3 y4 y5 y6) (ententeref03_Parse.j2 (k + 1) y0 y1 y2 y3 y4 y5 y6))
 | 0 => ⟨fun _ _ _ _ _ r h => by simp [ententeref03_Parse.j0] at h, fun _ _ _ _ _ _ r h => by simp [ententeref03_Parse.l0] at h, fun _ _ _ _ _ _ _ r h => by simp [ententeref03_Parse.j2] at h⟩
 | k + 1 => by
  obtain ⟨ih0, ih1, ih2⟩ := ententeref03_Parse.mono_l k
  refine ⟨?_, ?_, ?_⟩
  ·intro y0 y1 y2 y3 y4
   unfold ententeref03_Parse.j0
   repeat' first
   | (with_reducible exact ih0 _ _ _ _ _)
   | (with_reducible exact ih1 _ _ _ _ _ _)
   | (with_reducible exact ih2 _ _ _ _ _ _ _)
   | (with_reducible exact ententeref03_Number.mono _ _ _)
   | (with_reducible exact ententeref03_Show.mono _ _ _ _)
   | (with_reducible exact LeO.refl _)
   | (with_reducible exact LeO.none _)
   | (with_reducible refine LeO.ite ?_ ?_)
   | (with_reducible refine LeO.bind ?_ (fun _ => ?_))
   | exact ih0 _ _ _ _ _
   | exact ih1 _ _ _ _ _ _
   | exact ih2 _ _ _ _ _ _ _
   | exact ententeref03_Number.mono _ _ _
   | exact ententeref03_Show.mono _ _ _ _
   | exact LeO.none _
   | refine LeO.ite ?_ ?_
   | refine LeO.bind ?_ (fun _ => ?_)
  ·intro y0 y1 y2 y3 y4 y5
   unfold ententeref03_Parse.l0
   repeat' first
   | (with_reducible exact ih0 _ _ _ _ _)
   | (with_reducible exact ih1 _ _ _ _ _ _)
   | (with_reducible exact ih2 _ _ _ _ _ _ _)
   | (with_reducible exact ententeref03_Number.mono _ _ _)
   | (with_reducible exact ententeref03_Show.mono _ _ _ _)
   | (with_reducible exact LeO.refl _)
   | (with_reducible exact LeO.none _)
   | (with_reducible refine LeO.ite ?_ ?_)
   | (with_reducible refine LeO.bind ?_ (fun _ => ?_))
   | exact ih0 _ _ _ _ _
   | exact ih1 _ _ _ _ _ _
   | exact ih2 _ _ _ _ _ _ _
   | exact ententeref03_Number.mono _ _ _
   | exact ententeref03_Show.mono _ _ _ _
   | exact LeO.none _
   | refine LeO.ite ?_ ?_
   | refine LeO.bind ?_ (fun _ => ?_)
  ·intro y0 y1 y2 y3 y4 y5 y6
   unfold ententeref03_Parse.j2
   repeat' first
   | (with_reducible exact ih0 _ _ _ _ _)
   | (with_reducible exact ih1 _ _ _ _ _ _)
   | (with_reducible exact ih2 _ _ _ _ _ _ _)
   | (with_reducible exact ententeref03_Number.mono _ _ _)
   | (with_reducible exact ententeref03_Show.mono _ _ _ _)
   | (with_reducible exact LeO.refl _)
   | (with_reducible exact LeO.none _)
   | (with_reducible refine LeO.ite ?_ ?_)
   | (with_reducible refine LeO.bind ?_ (fun _ => ?_))
   | exact ih0 _ _ _ _ _
   | exact ih1 _ _ _ _ _ _
   | exact ih2 _ _ _ _ _ _ _
   | exact ententeref03_Number.mono _ _ _
   | exact ententeref03_Show.mono _ _ _ _
   | exact LeO.none _
   | refine LeO.ite ?_ ?_
   | refine LeO.bind ?_ (fun _ => ?_)
theorem ententeref03_Parse.mono : ∀ a0 k, LeO (ententeref03_Parse.f k a0) (ententeref03_Parse.f (k + 1) a0) := by
 intro a0 k
 obtain ⟨ih0, ih1, ih2⟩ := ententeref03_Parse.mono_l k
 unfold ententeref03_Parse.f
 repeat' first
   | (with_reducible exact ih0 _ _ _ _ _)
   | (with_reducible exact ih1 _ _ _ _ _ _)
   | (with_reducible exact ih2 _ _ _ _ _ _ _)
   | (with_reducible exact ententeref03_Number.mono _ _ _)
   | (with_reducible exact ententeref03_Show.mono _ _ _ _)
   | (with_reducible exact LeO.refl _)
   | (with_reducible exact LeO.none _)
   | (with_reducible refine LeO.ite ?_ ?_)
   | (with_reducible refine LeO.bind ?_ (fun _ => ?_))
   | exact ih0 _ _ _ _ _
   | exact ih1 _ _ _ _ _ _
   | exact ih2 _ _ _ _ _ _ _
   | exact ententeref03_Number.mono _ _ _
   | exact ententeref03_Show.mono _ _ _ _
   | exact LeO.none _
   | refine LeO.ite ?_ ?_
   | refine LeO.bind ?_ (fun _ => ?_)
set_option maxHeartbeats 8000000 in
set_option maxRecDepth 100000 in
theorem ententeref03_Parse.calls (k : Nat) (a0 : ByteArray) (r1 : Int) (r2 : Int) (r3 : List (S55)) (r4 : Int) (w : World) (h : ententeref03_Parse.f k a0 = some (r1, r2, r3, r4)) :
  Calls Tryd.prog 24 #[.string a0] w fun e w' => ∃ v2_ : Value, e = .returned (.tuple #[.agg #[.int .i64 r1, .int .i64 r2, v2_], .int .i64 r4]) ∧ Kd.R k55 55 w' w.heap.size (fun _ => True) v2_ r3 ∧ Below w.heap.size w w' := by
 have hu24 := Tryd.underlying24
 have hu55 := Tryd.underlying55
 have HB := Aside0.mk (Below.refl w.heap.size w)
 have H : ((ententeref03_Number.f k a0 0).bind fun bt266 => (if bt266.2.2 = true then (ententeref03_Parse.j0 k a0 bt266.2.1 (bt266.2.1 == (a0.size : Int)) bt266.1 0) else (ententeref03_Parse.j0 k a0 bt266.2.1 true bt266.1 0))) = some (r1, r2, r3, r4) := h
 clear h
 replace H := Option.bind_eq_some_iff.mp H
 obtain ⟨⟨t266, t267, t268⟩, A20, H⟩ := H
 replace H : (if t268 = true then (ententeref03_Parse.j0 k a0 t267 (t267 == (a0.size : Int)) t266 0) else (ententeref03_Parse.j0 k a0 t267 true t266 0)) = some (r1, r2, r3, r4) := H
 have A2 := Aside0.mk A20
 clear A20
 have HC3 := Aside0.mk H
 clear H
 go_enter Tryd.func24, Tryd.ntmps24
 go_upto_region 4 with (first | ((with_reducible refine gate_dst (N := 2) rfl ?_); (try (refine gate_guard (by rfl) ?_; dsimp only)); refine box_event ?hg (N := 2) ?hd (cs := #[.int .i64 0, .int .i64 0, .slice none 0 0]) (t := 24) ?hr ?_; (case hd => rfl); (case hg => rfl); (case hr => first | (go_simp; done) | (go_simp; rfl)); intro gb264 hg w4 hbox hb; have n0_ := Aside0.mk (below_step HB.out hb); have n1_ := Aside0.mk (hbox); have n2_ := Aside0.mk ((by rw [hg]; exact (below_size HB.out) : w.heap.size ≤ gb264)); have n3_ := Aside0.mk ((by rw [hg]; exact (below_size HB.out) : w.heap.size ≤ gb264)); clear HB; have HB := n0_; have BK264 := n1_; have GW264 := n2_; have GE264 := n3_; clear n0_ n1_ n2_ n3_; clear hb hbox hg) | ((with_reducible refine gate_dst (N := 4) rfl ?_); (try (refine gate_guard (by rfl) ?_; dsimp only)); refine box_event ?hg (N := 4) ?hd (cs := #[.int .i64 0, .int .i64 0, .slice none 0 0]) (t := 24) ?hr ?_; (case hd => rfl); (case hg => rfl); (case hr => first | (go_simp; done) | (go_simp; rfl)); intro gb265 hg w5 hbox hb; have n0_ := Aside0.mk (blk_below (g := gb264) (o := .cells #[.int .i64 0, .int .i64 0, .slice none 0 0] 24 (0, 0)) (by exact BK264.out) hb); have n1_ := Aside0.mk (below_step HB.out hb); have n2_ := Aside0.mk (hbox); have n3_ := Aside0.mk ((by rw [hg]; exact (below_size HB.out) : w.heap.size ≤ gb265)); have n4_ := Aside0.mk ((by rw [hg]; exact (below_size HB.out) : w.heap.size ≤ gb265)); have n5_ := Aside0.mk ((by rw [hg]; exact Nat.ne_of_lt (blk_lt (g := gb264) (o := .cells #[.int .i64 0, .int .i64 0, .slice none 0 0] 24 (0, 0)) (by exact BK264.out)) : gb264 ≠ gb265)); have n6_ := Aside0.mk ((by rw [hg]; exact Nat.ne_of_gt (blk_lt (g := gb264) (o := .cells #[.int .i64 0, .int .i64 0, .slice none 0 0] 24 (0, 0)) (by exact BK264.out)) : gb265 ≠ gb264)); clear BK264; clear HB; have BK264 := n0_; have HB := n1_; have BK265 := n2_; have GW265 := n3_; have GE265 := n4_; have NB264_265 := n5_; have NB265_264 := n6_; clear n0_ n1_ n2_ n3_ n4_ n5_ n6_; clear hb hbox hg; have hnb6 := NB265_264.out; have hnc6 := NB264_265.out; have hcz7_0 : w5.cell? ⟨gb265, 0, none⟩ = some (.int .i64 0) := (blk_cell BK265.out 0).trans rfl; have hcz7_1 : w5.cell? ⟨gb265, 1, none⟩ = some (.int .i64 0) := (blk_cell BK265.out 1).trans rfl; have hcz7_2 : w5.cell? ⟨gb265, 2, none⟩ = some (.slice none 0 0) := (blk_cell BK265.out 2).trans rfl; have hfz7_0 := blk_frozen BK265.out 0; have hfz7_1 := blk_frozen BK265.out 1; have hfz7_2 := blk_frozen BK265.out 2) | ((with_reducible refine gate_callee (f := 44) rfl ?_); refine goesL_ (some 20) rfl rfl Tryd.func44 (by kernel_rfl) rfl #[.string a0, .int .i64 0] rfl (by (try simp only [List.map_toArray, List.map_cons, List.map_nil]); first | done | rfl | (simp only [List.length_drop, List.length_take]; rfl)) ?_; (with_reducible refine (ententeref03_Number.calls k a0 0 t266 t267 t268 _ A2.out).mono ?_); rintro e w' ⟨rfl, ⟨nd, rfl⟩⟩; refine ⟨_, rfl, ?_⟩))
 (try simp only [Act.put, List.setIfInBounds_toArray, List.set_cons_zero, List.set_cons_succ])
 go_cut [33] (fun v33 wc => ∃ (kq : Nat) (x33_2 : Bool), v33 = .bool x33_2 ∧ Aside0 (ententeref03_Parse.j0 kq a0 t267 x33_2 t266 0 = some (r1, r2, r3, r4)) ∧ Aside0 (kq ≤ k) ∧ Aside0 (wc.heap[gb264]? = some (.cells #[.int .i64 0, .int .i64 0, (.slice none 0 0)] 24 (0, 0))) ∧ Aside0 (wc.heap[gb265]? = some (.cells #[.int .i64 t266, .int .i64 0, (.slice none 0 0)] 24 (0, 0))) ∧ Aside0 (Below w.heap.size w wc))
 case first =>
  have H := HC3.out
  clear HC3
  by_cases c8 : t268 = true
  ·subst c8
   have H1 : (ententeref03_Parse.j0 k a0 t267 (t267 == (a0.size : Int)) t266 0) = some (r1, r2, r3, r4) := by rw [if_pos rfl] at H; exact H
   clear H
   have H := H1
   clear H1
   have H' := Aside0.mk H
   clear H
   go_wp2
   go_meet
   case rel => exact ⟨_, ((t267 == (a0.size : Int))), (by first | rfl | (simp; done) | (simp [*]; done)), H', ⟨by first | omega | exact Nat.le_refl _⟩, ⟨by refine blk_far ?_ NB264_265.out _; (with_reducible repeat (first | refine blk_drewN ?_ _ | refine blk_drew ?_ | refine blk_alloc ?_ _)); refine blk_far ?_ NB264_265.out _; refine blk_far ?_ NB264_265.out _; refine blk_far ?_ NB264_265.out _; exact BK264.out⟩, ⟨by refine blk_put (cs := #[.int .i64 0, .int .i64 0, .slice none 0 0]) ?_ 0 _ rfl; (with_reducible repeat (first | refine blk_drewN ?_ _ | refine blk_drew ?_ | refine blk_alloc ?_ _)); refine blk_put (cs := #[.int .i64 0, .int .i64 0, .slice none 0 0]) ?_ 2 _ rfl; refine blk_put (cs := #[.int .i64 0, .int .i64 0, .slice none 0 0]) ?_ 1 _ rfl; refine blk_put (cs := #[.int .i64 0, .int .i64 0, .slice none 0 0]) ?_ 0 _ rfl; exact BK265.out⟩, ⟨by repeat (first | (with_reducible first | exact HB.out | apply below_alloc | apply pw_below_drewN | apply below_drew1 | refine below_set ?_ GE264.out | refine below_set ?_ GE265.out) | exact HB.out)⟩⟩
  ·replace c8 := Bool.eq_false_iff.mpr c8
   subst c8
   have H1 : (ententeref03_Parse.j0 k a0 t267 true t266 0) = some (r1, r2, r3, r4) := by rw [if_neg (show ¬ (false = true) by decide)] at H; exact H
   clear H
   have H := H1
   clear H1
   have H' := Aside0.mk H
   clear H
   go_wp2
   go_meet
   case rel => exact ⟨_, (true), (by first | rfl | (simp; done) | (simp [*]; done)), H', ⟨by first | omega | exact Nat.le_refl _⟩, ⟨by refine blk_far ?_ NB264_265.out _; (with_reducible repeat (first | refine blk_drewN ?_ _ | refine blk_drew ?_ | refine blk_alloc ?_ _)); refine blk_far ?_ NB264_265.out _; refine blk_far ?_ NB264_265.out _; refine blk_far ?_ NB264_265.out _; exact BK264.out⟩, ⟨by refine blk_put (cs := #[.int .i64 0, .int .i64 0, .slice none 0 0]) ?_ 0 _ rfl; (with_reducible repeat (first | refine blk_drewN ?_ _ | refine blk_drew ?_ | refine blk_alloc ?_ _)); refine blk_put (cs := #[.int .i64 0, .int .i64 0, .slice none 0 0]) ?_ 2 _ rfl; refine blk_put (cs := #[.int .i64 0, .int .i64 0, .slice none 0 0]) ?_ 1 _ rfl; refine blk_put (cs := #[.int .i64 0, .int .i64 0, .slice none 0 0]) ?_ 0 _ rfl; exact BK265.out⟩, ⟨by repeat (first | (with_reducible first | exact HB.out | apply below_alloc | apply pw_below_drewN | apply below_drew1 | refine below_set ?_ GE264.out | refine below_set ?_ GE265.out) | exact HB.out)⟩⟩
 case rest =>
  clear HC3
  try clear c2
  try clear p2
  try clear c4
  try clear c6
  try clear c8
  try clear hcz7_0
  try clear hcz7_1
  try clear hcz7_2
  try clear hfz7_0
  try clear hfz7_1
  try clear hfz7_2
  obtain ⟨kq, x33_2, rfl, HA, HJ2, BK264, BK265, HB⟩ := hcut
  cases kq with
  | zero => exact absurd HA.out (by simp [ententeref03_Parse.j0])
  | succ kj2 =>
   have H := HA.out
   clear HA
   simp only [ententeref03_Parse.j0] at H
   by_cases c9 : x33_2 = true
   ·subst c9
    have H1 : (some (0, 0, ([] : List (S55)), 30)) = some (r1, r2, r3, r4) := by rw [if_pos rfl] at H; exact H
    clear H
    have H := H1
    clear H1
    simp only [Option.some.injEq, Prod.mk.injEq] at H
    obtain ⟨rfl, rfl, rfl, rfl⟩ := H
    have hnb10 := NB264_265.out
    have hnc10 := NB265_264.out
    have hcz11_0 : wc.cell? ⟨gb264, 0, none⟩ = some (.int .i64 0) := (blk_cell BK264.out 0).trans rfl
    have hcz11_1 : wc.cell? ⟨gb264, 1, none⟩ = some (.int .i64 0) := (blk_cell BK264.out 1).trans rfl
    have hcz11_2 : wc.cell? ⟨gb264, 2, none⟩ = some (.slice none 0 0) := (blk_cell BK264.out 2).trans rfl
    have hfz11_0 := blk_frozen BK264.out 0
    have hfz11_1 := blk_frozen BK264.out 1
    have hfz11_2 := blk_frozen BK264.out 2
    go_wp2
    refine bodyPost_ret (results_ct rfl _ _ gb264 24 #[.int .i64 0, .int .i64 0, .slice none 0 0] (0, 0) _ rfl (by refine blk_put (cs := #[.int .i64 0, .int .i64 0, .slice none 0 0]) ?_ 2 _ rfl; refine blk_put (cs := #[.int .i64 0, .int .i64 0, .slice none 0 0]) ?_ 1 _ rfl; refine blk_put (cs := #[.int .i64 0, .int .i64 0, .slice none 0 0]) ?_ 0 _ rfl; exact BK264.out) Tryd.underlying24 rfl (by kernel_rfl)) rfl ?_
    exact ⟨_, by first | rfl | (simp [errW_none, errW_some] <;> rfl) | (simp [*, errW_none, errW_some] <;> rfl), by first | exact Kd.R_nil _ _ _ _ _ | exact Kd.N_nil _ _ _ _ _ | exact Kd.V_nil _ _ _ _ _ | exact Kd.Q_nil _ _ _ _ _ | exact Kd.S_nil _ _ _ _ _, by repeat (first | (with_reducible first | exact HB.out | apply below_alloc | apply pw_below_drewN | apply below_drew1 | refine below_set ?_ GE264.out | refine below_set ?_ GE265.out) | exact HB.out)⟩
   ·replace c9 := Bool.eq_false_iff.mpr c9
    subst c9
    have H1 : ((ententeref03_Number.f kj2 a0 (wrap64 (t267 + 1))).bind fun bt269 => (ententeref03_Parse.l0 kj2 a0 bt269.2.1 bt269.2.2 t266 bt269.1 ([] : List (S55)))) = some (r1, r2, r3, r4) := by rw [if_neg (show ¬ (false = true) by decide)] at H; exact H
    clear H
    have H := H1
    clear H1
    replace H := Option.bind_eq_some_iff.mp H
    obtain ⟨⟨t269, t270, t271⟩, A120, H⟩ := H
    replace H : (ententeref03_Parse.l0 kj2 a0 t270 t271 t266 t269 ([] : List (S55))) = some (r1, r2, r3, r4) := H
    have A12 := Aside0.mk A120
    clear A120
    have H' := Aside0.mk H
    clear H
    go_wp2_with (first | ((with_reducible refine gate_callee (f := 44) rfl ?_); refine goesL_ (some 39) rfl rfl Tryd.func44 (by kernel_rfl) rfl #[.string a0, .int .i64 (wrap64 (t267 + 1))] rfl (by (try simp only [List.map_toArray, List.map_cons, List.map_nil]); first | done | rfl | (simp only [List.length_drop, List.length_take]; rfl)) ?_; (with_reducible refine (ententeref03_Number.calls kj2 a0 (wrap64 (t267 + 1)) t269 t270 t271 _ A12.out).mono ?_); rintro e w' ⟨rfl, ⟨nd, rfl⟩⟩; refine ⟨_, rfl, ?_⟩; (try (rw [drewN_self wc]; generalize hq_ : World.drewN wc _ = wc; have n0_ : Aside0 (wc.heap[gb264]? = some (.cells #[.int .i64 0, .int .i64 0, .slice none 0 0] 24 (0, 0))) := ⟨by rw [← hq_]; exact (by (with_reducible repeat (first | refine blk_drewN ?_ _ | refine blk_drew ?_ | refine blk_alloc ?_ _)); exact BK264.out)⟩; have n1_ : Aside0 (wc.heap[gb265]? = some (.cells #[.int .i64 t266, .int .i64 0, .slice none 0 0] 24 (0, 0))) := ⟨by rw [← hq_]; exact (by (with_reducible repeat (first | refine blk_drewN ?_ _ | refine blk_drew ?_ | refine blk_alloc ?_ _)); exact BK265.out)⟩; have n2_ : Aside0 (Below w.heap.size w wc) := ⟨by rw [← hq_]; exact (by repeat (first | (with_reducible first | exact HB.out | apply below_alloc | apply pw_below_drewN | apply below_drew1 | refine below_set ?_ GE264.out | refine below_set ?_ GE265.out) | exact HB.out))⟩; clear BK264 BK265 HB hq_; have BK264 := n0_; have BK265 := n1_; have HB := n2_; clear n0_ n1_ n2_)); have hnb13 := NB265_264.out; have hnc13 := NB264_265.out; have hcz14_0 : wc.cell? ⟨gb265, 0, none⟩ = some (.int .i64 t266) := (blk_cell BK265.out 0).trans rfl; have hcz14_1 : wc.cell? ⟨gb265, 1, none⟩ = some (.int .i64 0) := (blk_cell BK265.out 1).trans rfl; have hcz14_2 : wc.cell? ⟨gb265, 2, none⟩ = some (.slice none 0 0) := (blk_cell BK265.out 2).trans rfl; have hfz14_0 := blk_frozen BK265.out 0; have hfz14_1 := blk_frozen BK265.out 1; have hfz14_2 := blk_frozen BK265.out 2))
    go_loopg [6, 7] kj2 (fun kq v6 v7 w' => ∃ (x6_2 : Int) (x7_2 : Bool) (x265000_2 : Int) (x265001_2 : Int) (x266002_2 : List (S55)) (u266002 : Value), v6 = .int .i64 x6_2 ∧ v7 = .bool x7_2 ∧ Aside0 (ententeref03_Parse.l0 kq a0 x6_2 x7_2 t266 t269 x266002_2 = some (r1, r2, r3, r4)) ∧ Aside0 (kq ≤ kj2) ∧ Aside0 (Kd.R k55 55 w' w.heap.size (fun _ => True) u266002 x266002_2) ∧ Aside0 (w'.heap[gb264]? = some (.cells #[.int .i64 x265000_2, .int .i64 x265001_2, (.slice none 0 0)] 24 (0, 0))) ∧ Aside0 (w'.heap[gb265]? = some (.cells #[.int .i64 t266, .int .i64 t269, u266002] 24 (0, 0))) ∧ Aside0 (Below w.heap.size w w'))
    case atStart => exact ⟨(t270), (t271), (0), (0), (([] : List (S55))), (.slice none 0 0), (by first | rfl | (simp; done) | (simp [*]; done)), (by first | rfl | (simp; done) | (simp [*]; done)), H', ⟨Nat.le_refl _⟩, ⟨by first | exact Kd.R_nil _ _ _ _ _ | exact Kd.N_nil _ _ _ _ _ | exact Kd.V_nil _ _ _ _ _ | exact Kd.Q_nil _ _ _ _ _ | exact Kd.S_nil _ _ _ _ _⟩, ⟨by refine blk_far ?_ NB264_265.out _; exact BK264.out⟩, ⟨by refine blk_put (cs := #[.int .i64 t266, .int .i64 0, .slice none 0 0]) ?_ 1 _ rfl; exact BK265.out⟩, ⟨by repeat (first | (with_reducible first | exact HB.out | apply below_alloc | apply pw_below_drewN | apply below_drew1 | refine below_set ?_ GE264.out | refine below_set ?_ GE265.out) | exact HB.out)⟩⟩
    case round =>
     clear H'
     try clear c1
     try clear c2
     try clear p2
     try clear c4
     try clear c6
     try clear p6
     try clear c8
     try clear c9
     try clear c10
     try clear c13
     try clear hcz11_0
     try clear hcz11_1
     try clear hcz11_2
     try clear hcz14_0
     try clear hcz14_1
     try clear hcz14_2
     try clear hcz7_0
     try clear hcz7_1
     try clear hcz7_2
     try clear hfz11_0
     try clear hfz11_1
     try clear hfz11_2
     try clear hfz14_0
     try clear hfz14_1
     try clear hfz14_2
     try clear hfz7_0
     try clear hfz7_1
     try clear hfz7_2
     try clear p2
     obtain ⟨x6_2, x7_2, x265000_2, x265001_2, x266002_2, u266002, rfl, rfl, HA, HK2, HO_266002, BK264, BK265, HB⟩ := hrel
     cases gk with
     | zero => exact absurd HA.out (by simp [ententeref03_Parse.l0])
     | succ k2 =>
      have H := HA.out
      clear HA
      simp only [ententeref03_Parse.l0] at H
      have HC15 := Aside0.mk H
      clear H
      go_upto_region 8 with (fail)
      go_cut [57] (fun v57 wc => ∃ (kq : Nat) (x57_14 : Bool), v57 = .bool x57_14 ∧ Aside0 (ententeref03_Parse.j2 kq a0 x6_2 x7_2 x57_14 t266 t269 x266002_2 = some (r1, r2, r3, r4)) ∧ Aside0 (kq ≤ k2) ∧ Aside0 (Kd.R k55 55 wc w.heap.size (fun _ => True) u266002 x266002_2) ∧ Aside0 (wc.heap[gb264]? = some (.cells #[.int .i64 x265000_2, .int .i64 x265001_2, (.slice none 0 0)] 24 (0, 0))) ∧ Aside0 (wc.heap[gb265]? = some (.cells #[.int .i64 t266, .int .i64 t269, u266002] 24 (0, 0))) ∧ Aside0 (Below w.heap.size w wc))
      case first =>
       have H := HC15.out
       clear HC15
       by_cases c16 : x7_2 = true
       ·subst c16
        have H1 : (if x6_2 < (a0.size : Int) then (ententeref03_Parse.j2 k2 a0 x6_2 true (decide ((x266002_2.length : Int) < 5)) t266 t269 x266002_2) else (ententeref03_Parse.j2 k2 a0 x6_2 true false t266 t269 x266002_2)) = some (r1, r2, r3, r4) := by rw [if_pos rfl] at H; exact H
        clear H
        have H := H1
        clear H1
        by_cases c17 : x6_2 < (a0.size : Int)
        ·rw [if_pos c17] at H
         have c17b0 : decide (x6_2 < (a0.size : Int)) = true := decide_eq_true c17
         clear c17
         (first | rw [c17b0] | (simp only [i64_w, i32_w]; rw [c17b0]) | skip)
         have H' := Aside0.mk H
         clear H
         have hnb18 := NB265_264.out
         have hnc18 := NB264_265.out
         have hcz19_0 : wr.cell? ⟨gb265, 0, none⟩ = some (.int .i64 t266) := (blk_cell BK265.out 0).trans rfl
         have hcz19_1 : wr.cell? ⟨gb265, 1, none⟩ = some (.int .i64 t269) := (blk_cell BK265.out 1).trans rfl
         have hcz19_2 : wr.cell? ⟨gb265, 2, none⟩ = some (u266002) := (blk_cell BK265.out 2).trans rfl
         have hfz19_0 := blk_frozen BK265.out 0
         have hfz19_1 := blk_frozen BK265.out 1
         have hfz19_2 := blk_frozen BK265.out 2
         obtain ⟨Ao20, co20, eo20⟩ := Kd.R_slice HO_266002.out
         subst eo20
         go_wp2
         go_meet
         case rel => exact ⟨_, (decide ((x266002_2.length : Int) < 5)), (by first | rfl | (simp; done) | (simp [*]; done)), H', ⟨by have := HJ2.out; have := HK2.out; first | omega | exact Nat.le_refl _⟩, ⟨by exact HO_266002.out⟩, ⟨by exact BK264.out⟩, ⟨by exact BK265.out⟩, ⟨HB.out⟩⟩
        ·rw [if_neg c17] at H
         have c17b0 : decide (x6_2 < (a0.size : Int)) = false := decide_eq_false c17
         clear c17
         (first | rw [c17b0] | (simp only [i64_w, i32_w]; rw [c17b0]) | skip)
         have H' := Aside0.mk H
         clear H
         go_wp2
         go_meet
         case rel => exact ⟨_, (false), (by first | rfl | (simp; done) | (simp [*]; done)), H', ⟨by have := HJ2.out; have := HK2.out; first | omega | exact Nat.le_refl _⟩, ⟨by exact HO_266002.out⟩, ⟨by exact BK264.out⟩, ⟨by exact BK265.out⟩, ⟨HB.out⟩⟩
       ·replace c16 := Bool.eq_false_iff.mpr c16
        subst c16
        have H1 : (ententeref03_Parse.j2 k2 a0 x6_2 false false t266 t269 x266002_2) = some (r1, r2, r3, r4) := by rw [if_neg (show ¬ (false = true) by decide)] at H; exact H
        clear H
        have H := H1
        clear H1
        have H' := Aside0.mk H
        clear H
        go_wp2
        go_meet
        case rel => exact ⟨_, (false), (by first | rfl | (simp; done) | (simp [*]; done)), H', ⟨by have := HJ2.out; have := HK2.out; first | omega | exact Nat.le_refl _⟩, ⟨by exact HO_266002.out⟩, ⟨by exact BK264.out⟩, ⟨by exact BK265.out⟩, ⟨HB.out⟩⟩
      case rest =>
       clear HC15
       try clear c1
       try clear c2
       try clear p2
       try clear c4
       try clear c6
       try clear p6
       try clear c8
       try clear c9
       try clear c10
       try clear c13
       try clear c16
       try clear c17
       try clear c17b0
       try clear c18
       try clear hcz11_0
       try clear hcz11_1
       try clear hcz11_2
       try clear hcz14_0
       try clear hcz14_1
       try clear hcz14_2
       try clear hcz19_0
       try clear hcz19_1
       try clear hcz19_2
       try clear hcz7_0
       try clear hcz7_1
       try clear hcz7_2
       try clear hfz11_0
       try clear hfz11_1
       try clear hfz11_2
       try clear hfz14_0
       try clear hfz14_1
       try clear hfz14_2
       try clear hfz19_0
       try clear hfz19_1
       try clear hfz19_2
       try clear hfz7_0
       try clear hfz7_1
       try clear hfz7_2
       try clear p2
       try clear p6
       obtain ⟨kq, x57_14, rfl, HA, HJ14, HO_266002, BK264, BK265, HB⟩ := hcut
       cases kq with
       | zero => exact absurd HA.out (by simp [ententeref03_Parse.j2])
       | succ kj14 =>
        have H := HA.out
        clear HA
        simp only [ententeref03_Parse.j2] at H
        by_cases c21 : x57_14 = true
        ·subst c21
         have H1 : ((ententeref03_Number.f kj14 a0 (wrap64 (x6_2 + 1))).bind fun bt274 => (if bt274.2.2 = true then (if bt274.2.1 = (a0.size : Int) then (some (0, 0, ([] : List (S55)), 30)) else ((ententeref03_Number.f kj14 a0 (wrap64 (bt274.2.1 + 1))).bind fun bt277 => (if x266002_2.length < 8796093022208 then (ententeref03_Parse.l0 kj14 a0 bt277.2.1 bt277.2.2 t266 t269 (x266002_2 ++ [(⟨bt274.1, bt277.1⟩ : S55)])) else (none)))) else (some (0, 0, ([] : List (S55)), 30)))) = some (r1, r2, r3, r4) := by rw [if_pos rfl] at H; exact H
         clear H
         have H := H1
         clear H1
         replace H := Option.bind_eq_some_iff.mp H
         obtain ⟨⟨t274, t275, t276⟩, A220, H⟩ := H
         replace H : (if t276 = true then (if t275 = (a0.size : Int) then (some (0, 0, ([] : List (S55)), 30)) else ((ententeref03_Number.f kj14 a0 (wrap64 (t275 + 1))).bind fun bt277 => (if x266002_2.length < 8796093022208 then (ententeref03_Parse.l0 kj14 a0 bt277.2.1 bt277.2.2 t266 t269 (x266002_2 ++ [(⟨t274, bt277.1⟩ : S55)])) else (none)))) else (some (0, 0, ([] : List (S55)), 30))) = some (r1, r2, r3, r4) := H
         have A22 := Aside0.mk A220
         clear A220
         by_cases c23 : t276 = true
         ·subst c23
          have H1 : (if t275 = (a0.size : Int) then (some (0, 0, ([] : List (S55)), 30)) else ((ententeref03_Number.f kj14 a0 (wrap64 (t275 + 1))).bind fun bt277 => (if x266002_2.length < 8796093022208 then (ententeref03_Parse.l0 kj14 a0 bt277.2.1 bt277.2.2 t266 t269 (x266002_2 ++ [(⟨t274, bt277.1⟩ : S55)])) else (none)))) = some (r1, r2, r3, r4) := by rw [if_pos rfl] at H; exact H
          clear H
          have H := H1
          clear H1
          by_cases c24 : t275 = (a0.size : Int)
          ·rw [if_pos c24] at H
           have c24b0 : (t275 == (a0.size : Int)) = true := beq_iff_eq.mpr c24
           have c24b1 : (t275 != (a0.size : Int)) = false := bne_eq_false_iff_eq.mpr c24
           clear c24
           simp only [Option.some.injEq, Prod.mk.injEq] at H
           obtain ⟨rfl, rfl, rfl, rfl⟩ := H
           go_wp2_with (first | ((with_reducible refine gate_callee (f := 44) rfl ?_); refine goesL_ (some 62) rfl rfl Tryd.func44 (by kernel_rfl) rfl #[.string a0, .int .i64 (wrap64 (x6_2 + 1))] rfl (by (try simp only [List.map_toArray, List.map_cons, List.map_nil]); first | done | rfl | (simp only [List.length_drop, List.length_take]; rfl)) ?_; (with_reducible refine (ententeref03_Number.calls kj14 a0 (wrap64 (x6_2 + 1)) t274 t275 true _ A22.out).mono ?_); rintro e w' ⟨rfl, ⟨nd, rfl⟩⟩; refine ⟨_, rfl, ?_⟩; (try (rw [drewN_self wc]; generalize hq_ : World.drewN wc _ = wc; have n0_ : Aside0 (Kd.R k55 55 wc w.heap.size (fun _ => True) u266002 x266002_2) := ⟨by rw [← hq_]; exact (by (with_reducible repeat (first | apply Kd.R_alloc | apply Kd.R_drewN | apply Kd.R_drew)); exact HO_266002.out)⟩; have n1_ : Aside0 (wc.heap[gb264]? = some (.cells #[.int .i64 x265000_2, .int .i64 x265001_2, .slice none 0 0] 24 (0, 0))) := ⟨by rw [← hq_]; exact (by (with_reducible repeat (first | refine blk_drewN ?_ _ | refine blk_drew ?_ | refine blk_alloc ?_ _)); exact BK264.out)⟩; have n2_ : Aside0 (wc.heap[gb265]? = some (.cells #[.int .i64 t266, .int .i64 t269, u266002] 24 (0, 0))) := ⟨by rw [← hq_]; exact (by (with_reducible repeat (first | refine blk_drewN ?_ _ | refine blk_drew ?_ | refine blk_alloc ?_ _)); exact BK265.out)⟩; have n3_ : Aside0 (Below w.heap.size w wc) := ⟨by rw [← hq_]; exact (by repeat (first | (with_reducible first | exact HB.out | apply below_alloc | apply pw_below_drewN | apply below_drew1 | refine below_set ?_ GE264.out | refine below_set ?_ GE265.out) | exact HB.out))⟩; clear HO_266002 BK264 BK265 HB hq_; have HO_266002 := n0_; have BK264 := n1_; have BK265 := n2_; have HB := n3_; clear n0_ n1_ n2_ n3_)); have hnb25 := NB264_265.out; have hnc25 := NB265_264.out; have hcz26_0 : wc.cell? ⟨gb264, 0, none⟩ = some (.int .i64 x265000_2) := (blk_cell BK264.out 0).trans rfl; have hcz26_1 : wc.cell? ⟨gb264, 1, none⟩ = some (.int .i64 x265001_2) := (blk_cell BK264.out 1).trans rfl; have hcz26_2 : wc.cell? ⟨gb264, 2, none⟩ = some (.slice none 0 0) := (blk_cell BK264.out 2).trans rfl; have hfz26_0 := blk_frozen BK264.out 0; have hfz26_1 := blk_frozen BK264.out 1; have hfz26_2 := blk_frozen BK264.out 2))
           refine bodyPost_ret (results_ct rfl _ _ gb264 24 #[.int .i64 0, .int .i64 0, .slice none 0 0] (0, 0) _ rfl (by refine blk_put (cs := #[.int .i64 0, .int .i64 0, .slice none 0 0]) ?_ 2 _ rfl; refine blk_put (cs := #[.int .i64 0, .int .i64 x265001_2, .slice none 0 0]) ?_ 1 _ rfl; refine blk_put (cs := #[.int .i64 x265000_2, .int .i64 x265001_2, .slice none 0 0]) ?_ 0 _ rfl; exact BK264.out) Tryd.underlying24 rfl (by kernel_rfl)) rfl ?_
           exact ⟨_, by first | rfl | (simp [errW_none, errW_some] <;> rfl) | (simp [*, errW_none, errW_some] <;> rfl), by first | exact Kd.R_nil _ _ _ _ _ | exact Kd.N_nil _ _ _ _ _ | exact Kd.V_nil _ _ _ _ _ | exact Kd.Q_nil _ _ _ _ _ | exact Kd.S_nil _ _ _ _ _, by repeat (first | (with_reducible first | exact HB.out | apply below_alloc | apply pw_below_drewN | apply below_drew1 | refine below_set ?_ GE264.out | refine below_set ?_ GE265.out) | exact HB.out)⟩
          ·rw [if_neg c24] at H
           have c24b0 : (t275 == (a0.size : Int)) = false := beq_eq_false_iff_ne.mpr c24
           have c24b1 : (t275 != (a0.size : Int)) = true := bne_iff_ne.mpr c24
           replace H := Option.bind_eq_some_iff.mp H
           obtain ⟨⟨t277, t278, t279⟩, A270, H⟩ := H
           replace H : (if x266002_2.length < 8796093022208 then (ententeref03_Parse.l0 kj14 a0 t278 t279 t266 t269 (x266002_2 ++ [(⟨t274, t277⟩ : S55)])) else (none)) = some (r1, r2, r3, r4) := H
           have A27 := Aside0.mk A270
           clear A270
           by_cases c28 : x266002_2.length < 8796093022208
           ·rw [if_pos c28] at H
            have LMc28 := Aside0.mk c28
            clear c28
            obtain ⟨y280, hy280⟩ : ∃ y_ : List (S55), y_ = (x266002_2 ++ [(⟨t274, t277⟩ : S55)]) := ⟨_, rfl⟩
            replace H : (ententeref03_Parse.l0 kj14 a0 t278 t279 t266 t269 y280) = some (r1, r2, r3, r4) := by first | (rw [hy280]; with_reducible exact H) | (have H2_ := (Option.bind_some _ _).symm.trans H; rw [hy280]; with_reducible exact H2_) | (have H2_ := (Option.bind_some _ _).symm.trans H; with_reducible exact H2_) | with_reducible exact H | (rw [hy280]; exact H) | exact H
            have Ny280 := Aside0.mk hy280
            clear hy280
            have H' := Aside0.mk H
            clear H
            go_wp2_with (first | ((with_reducible refine gate_callee (f := 44) rfl ?_); refine goesL_ (some 62) rfl rfl Tryd.func44 (by kernel_rfl) rfl #[.string a0, .int .i64 (wrap64 (x6_2 + 1))] rfl (by (try simp only [List.map_toArray, List.map_cons, List.map_nil]); first | done | rfl | (simp only [List.length_drop, List.length_take]; rfl)) ?_; (with_reducible refine (ententeref03_Number.calls kj14 a0 (wrap64 (x6_2 + 1)) t274 t275 true _ A22.out).mono ?_); rintro e w' ⟨rfl, ⟨nd, rfl⟩⟩; refine ⟨_, rfl, ?_⟩; (try (rw [drewN_self wc]; generalize hq_ : World.drewN wc _ = wc; have n0_ : Aside0 (Kd.R k55 55 wc w.heap.size (fun _ => True) u266002 x266002_2) := ⟨by rw [← hq_]; exact (by (with_reducible repeat (first | apply Kd.R_alloc | apply Kd.R_drewN | apply Kd.R_drew)); exact HO_266002.out)⟩; have n1_ : Aside0 (wc.heap[gb264]? = some (.cells #[.int .i64 x265000_2, .int .i64 x265001_2, .slice none 0 0] 24 (0, 0))) := ⟨by rw [← hq_]; exact (by (with_reducible repeat (first | refine blk_drewN ?_ _ | refine blk_drew ?_ | refine blk_alloc ?_ _)); exact BK264.out)⟩; have n2_ : Aside0 (wc.heap[gb265]? = some (.cells #[.int .i64 t266, .int .i64 t269, u266002] 24 (0, 0))) := ⟨by rw [← hq_]; exact (by (with_reducible repeat (first | refine blk_drewN ?_ _ | refine blk_drew ?_ | refine blk_alloc ?_ _)); exact BK265.out)⟩; have n3_ : Aside0 (Below w.heap.size w wc) := ⟨by rw [← hq_]; exact (by repeat (first | (with_reducible first | exact HB.out | apply below_alloc | apply pw_below_drewN | apply below_drew1 | refine below_set ?_ GE264.out | refine below_set ?_ GE265.out) | exact HB.out))⟩; clear HO_266002 BK264 BK265 HB hq_; have HO_266002 := n0_; have BK264 := n1_; have BK265 := n2_; have HB := n3_; clear n0_ n1_ n2_ n3_))) | ((with_reducible refine gate_callee (f := 44) rfl ?_); refine goesL_ (some 79) rfl rfl Tryd.func44 (by kernel_rfl) rfl #[.string a0, .int .i64 (wrap64 (t275 + 1))] rfl (by (try simp only [List.map_toArray, List.map_cons, List.map_nil]); first | done | rfl | (simp only [List.length_drop, List.length_take]; rfl)) ?_; (with_reducible refine (ententeref03_Number.calls kj14 a0 (wrap64 (t275 + 1)) t277 t278 t279 _ A27.out).mono ?_); rintro e w' ⟨rfl, ⟨nd, rfl⟩⟩; refine ⟨_, rfl, ?_⟩; (try (rw [drewN_self wc]; generalize hq_ : World.drewN wc _ = wc; have n0_ : Aside0 (Kd.R k55 55 wc w.heap.size (fun _ => True) u266002 x266002_2) := ⟨by rw [← hq_]; exact (by (with_reducible repeat (first | apply Kd.R_alloc | apply Kd.R_drewN | apply Kd.R_drew)); exact HO_266002.out)⟩; have n1_ : Aside0 (wc.heap[gb264]? = some (.cells #[.int .i64 x265000_2, .int .i64 x265001_2, .slice none 0 0] 24 (0, 0))) := ⟨by rw [← hq_]; exact (by (with_reducible repeat (first | refine blk_drewN ?_ _ | refine blk_drew ?_ | refine blk_alloc ?_ _)); exact BK264.out)⟩; have n2_ : Aside0 (wc.heap[gb265]? = some (.cells #[.int .i64 t266, .int .i64 t269, u266002] 24 (0, 0))) := ⟨by rw [← hq_]; exact (by (with_reducible repeat (first | refine blk_drewN ?_ _ | refine blk_drew ?_ | refine blk_alloc ?_ _)); exact BK265.out)⟩; have n3_ : Aside0 (Below w.heap.size w wc) := ⟨by rw [← hq_]; exact (by repeat (first | (with_reducible first | exact HB.out | apply below_alloc | apply pw_below_drewN | apply below_drew1 | refine below_set ?_ GE264.out | refine below_set ?_ GE265.out) | exact HB.out))⟩; clear HO_266002 BK264 BK265 HB hq_; have HO_266002 := n0_; have BK264 := n1_; have BK265 := n2_; have HB := n3_; clear n0_ n1_ n2_ n3_)); have hnb29 := NB265_264.out; have hnc29 := NB264_265.out; have hcz30_0 : wc.cell? ⟨gb265, 0, none⟩ = some (.int .i64 t266) := (blk_cell BK265.out 0).trans rfl; have hcz30_1 : wc.cell? ⟨gb265, 1, none⟩ = some (.int .i64 t269) := (blk_cell BK265.out 1).trans rfl; have hcz30_2 : wc.cell? ⟨gb265, 2, none⟩ = some (u266002) := (blk_cell BK265.out 2).trans rfl; have hfz30_0 := blk_frozen BK265.out 0; have hfz30_1 := blk_frozen BK265.out 1; have hfz30_2 := blk_frozen BK265.out 2) | ((with_reducible refine gate_builtin (b := .append) (xs := #[.tmp 84, .tmp 88]) rfl ?_); (try (refine gate_guard (by rfl) ?_; dsimp only)); at_builtin; refine Kd.R_append k55 (w0 := w) w.heap.size rfl (.tmp 84) (.tmp 88) 22 55 (.agg #[(.int .i64 0), (.int .i64 0)]) 16 rfl Tryd.underlying22 info55 rfl (by decide) (by omega) u266002 x266002_2 (⟨t274, t277⟩ : S55) [.int .i64 t274, .int .i64 t277] (fun _ => True) (fun _ => False) rfl rfl ?aP (fun _ hk => hk.elim) ?aF ?aO ?aB ?aS ?aL ?_; (case aP => exact k55_mkM _ _ _ (⟨t274, t277⟩ : S55)); (case aB => exact HB.out); (case aF => exact (fun _ _ => trivial)); (case aO => exact (by exact HO_266002.out)); (case aS => exact (below_size HB.out)); (case aL => have := LMc28.out; omega); intro v281 w31 ho hb hg hat; rw [← Ny280.out] at ho; have n0_ := Aside0.mk (blk_grown (g := gb264) (o := .cells #[.int .i64 x265000_2, .int .i64 x265001_2, .slice none 0 0] 24 (0, 0)) (by exact BK264.out) hg (Kd.R_ne HO_266002.out BK264.out (by decide))); have n1_ := Aside0.mk (blk_grown (g := gb265) (o := .cells #[.int .i64 t266, .int .i64 t269, u266002] 24 (0, 0)) (by exact BK265.out) hg (Kd.R_ne HO_266002.out BK265.out (by decide))); have n2_ := Aside0.mk (hb); have n3_ := Aside0.mk (ho); clear BK264; clear BK265; clear HB; clear HO_266002; have BK264 := n0_; have BK265 := n1_; have HB := n2_; have HO282 := n3_; clear n0_ n1_ n2_ n3_; clear ho hb hg hat; obtain ⟨Ao32, co32, eo32⟩ := Kd.R_slice HO282.out; subst eo32; have hcz33_0 : w31.cell? ⟨gb265, 0, none⟩ = some (.int .i64 t266) := (blk_cell BK265.out 0).trans rfl; have hcz33_1 : w31.cell? ⟨gb265, 1, none⟩ = some (.int .i64 t269) := (blk_cell BK265.out 1).trans rfl; have hcz33_2 : w31.cell? ⟨gb265, 2, none⟩ = some (u266002) := (blk_cell BK265.out 2).trans rfl; have hfz33_0 := blk_frozen BK265.out 0; have hfz33_1 := blk_frozen BK265.out 1; have hfz33_2 := blk_frozen BK265.out 2))
            go_roundg kj14
            case measure => have := HJ2.out; have := HK2.out; have := HJ14.out; omega
            case rel => exact ⟨(t278), (t279), (x265000_2), (x265001_2), (y280), (.slice Ao32 y280.length co32), (by first | rfl | (simp; done) | (simp [*]; done)), (by first | rfl | (simp; done) | (simp [*]; done)), H', ⟨by have := HJ2.out; have := HK2.out; have := HJ14.out; omega⟩, ⟨by exact Kd.R_mono (Kd.R_far (p := ⟨gb265, 2, none⟩) (Kd.R_types HO282.out BK265.out (by decide)) (fun _ hk => hk.2) (.slice Ao32 y280.length co32)) (fun _ hk => trivial)⟩, ⟨by refine blk_far ?_ NB264_265.out _; exact BK264.out⟩, ⟨by refine blk_put (cs := #[.int .i64 t266, .int .i64 t269, u266002]) ?_ 2 _ rfl; exact BK265.out⟩, ⟨by repeat (first | (with_reducible first | exact HB.out | apply below_alloc | apply pw_below_drewN | apply below_drew1 | refine below_set ?_ GE264.out | refine below_set ?_ GE265.out) | exact HB.out)⟩⟩
           ·rw [if_neg c28] at H
            exact absurd H (by simp)
         ·replace c23 := Bool.eq_false_iff.mpr c23
          subst c23
          have H1 : (some (0, 0, ([] : List (S55)), 30)) = some (r1, r2, r3, r4) := by rw [if_neg (show ¬ (false = true) by decide)] at H; exact H
          clear H
          have H := H1
          clear H1
          simp only [Option.some.injEq, Prod.mk.injEq] at H
          obtain ⟨rfl, rfl, rfl, rfl⟩ := H
          go_wp2_with (first | ((with_reducible refine gate_callee (f := 44) rfl ?_); refine goesL_ (some 62) rfl rfl Tryd.func44 (by kernel_rfl) rfl #[.string a0, .int .i64 (wrap64 (x6_2 + 1))] rfl (by (try simp only [List.map_toArray, List.map_cons, List.map_nil]); first | done | rfl | (simp only [List.length_drop, List.length_take]; rfl)) ?_; (with_reducible refine (ententeref03_Number.calls kj14 a0 (wrap64 (x6_2 + 1)) t274 t275 false _ A22.out).mono ?_); rintro e w' ⟨rfl, ⟨nd, rfl⟩⟩; refine ⟨_, rfl, ?_⟩; (try (rw [drewN_self wc]; generalize hq_ : World.drewN wc _ = wc; have n0_ : Aside0 (Kd.R k55 55 wc w.heap.size (fun _ => True) u266002 x266002_2) := ⟨by rw [← hq_]; exact (by (with_reducible repeat (first | apply Kd.R_alloc | apply Kd.R_drewN | apply Kd.R_drew)); exact HO_266002.out)⟩; have n1_ : Aside0 (wc.heap[gb264]? = some (.cells #[.int .i64 x265000_2, .int .i64 x265001_2, .slice none 0 0] 24 (0, 0))) := ⟨by rw [← hq_]; exact (by (with_reducible repeat (first | refine blk_drewN ?_ _ | refine blk_drew ?_ | refine blk_alloc ?_ _)); exact BK264.out)⟩; have n2_ : Aside0 (wc.heap[gb265]? = some (.cells #[.int .i64 t266, .int .i64 t269, u266002] 24 (0, 0))) := ⟨by rw [← hq_]; exact (by (with_reducible repeat (first | refine blk_drewN ?_ _ | refine blk_drew ?_ | refine blk_alloc ?_ _)); exact BK265.out)⟩; have n3_ : Aside0 (Below w.heap.size w wc) := ⟨by rw [← hq_]; exact (by repeat (first | (with_reducible first | exact HB.out | apply below_alloc | apply pw_below_drewN | apply below_drew1 | refine below_set ?_ GE264.out | refine below_set ?_ GE265.out) | exact HB.out))⟩; clear HO_266002 BK264 BK265 HB hq_; have HO_266002 := n0_; have BK264 := n1_; have BK265 := n2_; have HB := n3_; clear n0_ n1_ n2_ n3_)); have hnb34 := NB264_265.out; have hnc34 := NB265_264.out; have hcz35_0 : wc.cell? ⟨gb264, 0, none⟩ = some (.int .i64 x265000_2) := (blk_cell BK264.out 0).trans rfl; have hcz35_1 : wc.cell? ⟨gb264, 1, none⟩ = some (.int .i64 x265001_2) := (blk_cell BK264.out 1).trans rfl; have hcz35_2 : wc.cell? ⟨gb264, 2, none⟩ = some (.slice none 0 0) := (blk_cell BK264.out 2).trans rfl; have hfz35_0 := blk_frozen BK264.out 0; have hfz35_1 := blk_frozen BK264.out 1; have hfz35_2 := blk_frozen BK264.out 2))
          refine bodyPost_ret (results_ct rfl _ _ gb264 24 #[.int .i64 0, .int .i64 0, .slice none 0 0] (0, 0) _ rfl (by refine blk_put (cs := #[.int .i64 0, .int .i64 0, .slice none 0 0]) ?_ 2 _ rfl; refine blk_put (cs := #[.int .i64 0, .int .i64 x265001_2, .slice none 0 0]) ?_ 1 _ rfl; refine blk_put (cs := #[.int .i64 x265000_2, .int .i64 x265001_2, .slice none 0 0]) ?_ 0 _ rfl; exact BK264.out) Tryd.underlying24 rfl (by kernel_rfl)) rfl ?_
          exact ⟨_, by first | rfl | (simp [errW_none, errW_some] <;> rfl) | (simp [*, errW_none, errW_some] <;> rfl), by first | exact Kd.R_nil _ _ _ _ _ | exact Kd.N_nil _ _ _ _ _ | exact Kd.V_nil _ _ _ _ _ | exact Kd.Q_nil _ _ _ _ _ | exact Kd.S_nil _ _ _ _ _, by repeat (first | (with_reducible first | exact HB.out | apply below_alloc | apply pw_below_drewN | apply below_drew1 | refine below_set ?_ GE264.out | refine below_set ?_ GE265.out) | exact HB.out)⟩
        ·replace c21 := Bool.eq_false_iff.mpr c21
         subst c21
         have H1 : ((ententeref03_Show.f kj14 t266 t269 x266002_2).bind fun bt272 => (if x7_2 = true then (if bt272.2 = 0 then (if bt272.1.toList = a0.toList then (some (t266, t269, x266002_2, 0)) else (some (0, 0, ([] : List (S55)), 30))) else (some (0, 0, ([] : List (S55)), 30))) else (some (0, 0, ([] : List (S55)), 30)))) = some (r1, r2, r3, r4) := by rw [if_neg (show ¬ (false = true) by decide)] at H; exact H
         clear H
         have H := H1
         clear H1
         replace H := Option.bind_eq_some_iff.mp H
         obtain ⟨⟨t272, t273⟩, A360, H⟩ := H
         replace H : (if x7_2 = true then (if t273 = 0 then (if t272.toList = a0.toList then (some (t266, t269, x266002_2, 0)) else (some (0, 0, ([] : List (S55)), 30))) else (some (0, 0, ([] : List (S55)), 30))) else (some (0, 0, ([] : List (S55)), 30))) = some (r1, r2, r3, r4) := H
         have A36 := Aside0.mk A360
         clear A360
         by_cases c37 : x7_2 = true
         ·subst c37
          have H1 : (if t273 = 0 then (if t272.toList = a0.toList then (some (t266, t269, x266002_2, 0)) else (some (0, 0, ([] : List (S55)), 30))) else (some (0, 0, ([] : List (S55)), 30))) = some (r1, r2, r3, r4) := by rw [if_pos rfl] at H; exact H
          clear H
          have H := H1
          clear H1
          by_cases c38 : t273 = 0
          ·rw [if_pos c38] at H
           have c38b0 : (t273 == 0) = true := beq_iff_eq.mpr c38
           have c38b1 : (t273 != 0) = false := bne_eq_false_iff_eq.mpr c38
           clear c38
           by_cases c39 : t272.toList = a0.toList
           ·rw [if_pos c39] at H
            have c39b0 : (t272.toList == a0.toList) = true := beq_iff_eq.mpr c39
            have c39b1 : (t272.toList != a0.toList) = false := bne_eq_false_iff_eq.mpr c39
            clear c39
            simp only [Option.some.injEq, Prod.mk.injEq] at H
            obtain ⟨rfl, rfl, rfl, rfl⟩ := H
            have hnb40 := NB265_264.out
            have hnc40 := NB264_265.out
            have hcz41_0 : wc.cell? ⟨gb265, 0, none⟩ = some (.int .i64 t266) := (blk_cell BK265.out 0).trans rfl
            have hcz41_1 : wc.cell? ⟨gb265, 1, none⟩ = some (.int .i64 t269) := (blk_cell BK265.out 1).trans rfl
            have hcz41_2 : wc.cell? ⟨gb265, 2, none⟩ = some (u266002) := (blk_cell BK265.out 2).trans rfl
            have hfz41_0 := blk_frozen BK265.out 0
            have hfz41_1 := blk_frozen BK265.out 1
            have hfz41_2 := blk_frozen BK265.out 2
            obtain ⟨Ao42, co42, eo42⟩ := Kd.R_slice HO_266002.out
            subst eo42
            go_wp2_with (first | ((with_reducible refine gate_callee (f := 22) rfl ?_); refine goesL_ (some 95) rfl rfl Tryd.func22 (by kernel_rfl) rfl #[.agg #[.int .i64 t266, .int .i64 t269, .slice Ao42 x266002_2.length co42]] rfl (by (try simp only [List.map_toArray, List.map_cons, List.map_nil]); first | done | rfl | (simp only [List.length_drop, List.length_take]; rfl)) ?_; (with_reducible refine (ententeref03_Show.calls kj14 t266 t269 _ _ x266002_2 t272 t273 _ ?side1 ?side2 A36.out).mono ?_); (case side1 => exact (Kd.R_reads' HO_266002.out).2.2); (case side2 => exact (Kd.R_reads' HO_266002.out).2.1); rintro e w43 ⟨rfl, hb⟩; refine ⟨_, rfl, ?_⟩; have n0_ := Aside0.mk (Kd.R_below (by exact HO_266002.out) hb); have n1_ := Aside0.mk (blk_below (g := gb264) (o := .cells #[.int .i64 x265000_2, .int .i64 x265001_2, .slice none 0 0] 24 (0, 0)) (by exact BK264.out) hb); have n2_ := Aside0.mk (blk_below (g := gb265) (o := .cells #[.int .i64 t266, .int .i64 t269, .slice Ao42 x266002_2.length co42] 24 (0, 0)) (by exact BK265.out) hb); have n3_ := Aside0.mk (below_step HB.out hb); clear HO_266002; clear BK264; clear BK265; clear HB; have HO_266002 := n0_; have BK264 := n1_; have BK265 := n2_; have HB := n3_; clear n0_ n1_ n2_ n3_; (try clear hb); (try clear hb2); (try clear hk); (try clear hi); have hcz44_0 : w43.cell? ⟨gb265, 0, none⟩ = some (.int .i64 t266) := (blk_cell BK265.out 0).trans rfl; have hcz44_1 : w43.cell? ⟨gb265, 1, none⟩ = some (.int .i64 t269) := (blk_cell BK265.out 1).trans rfl; have hcz44_2 : w43.cell? ⟨gb265, 2, none⟩ = some (.slice Ao42 x266002_2.length co42) := (blk_cell BK265.out 2).trans rfl; have hfz44_0 := blk_frozen BK265.out 0; have hfz44_1 := blk_frozen BK265.out 1; have hfz44_2 := blk_frozen BK265.out 2; have hcz45_0 : w43.cell? ⟨gb264, 0, none⟩ = some (.int .i64 x265000_2) := (blk_cell BK264.out 0).trans rfl; have hcz45_1 : w43.cell? ⟨gb264, 1, none⟩ = some (.int .i64 x265001_2) := (blk_cell BK264.out 1).trans rfl; have hcz45_2 : w43.cell? ⟨gb264, 2, none⟩ = some (.slice none 0 0) := (blk_cell BK264.out 2).trans rfl; have hfz45_0 := blk_frozen BK264.out 0; have hfz45_1 := blk_frozen BK264.out 1; have hfz45_2 := blk_frozen BK264.out 2))
            refine bodyPost_ret (results_ct rfl _ _ gb264 24 #[.int .i64 t266, .int .i64 t269, .slice Ao42 x266002_2.length co42] (0, 0) _ rfl (by refine blk_put (cs := #[.int .i64 t266, .int .i64 t269, .slice none 0 0]) ?_ 2 _ rfl; refine blk_put (cs := #[.int .i64 t266, .int .i64 x265001_2, .slice none 0 0]) ?_ 1 _ rfl; refine blk_put (cs := #[.int .i64 x265000_2, .int .i64 x265001_2, .slice none 0 0]) ?_ 0 _ rfl; exact BK264.out) Tryd.underlying24 rfl (by kernel_rfl)) rfl ?_
            exact ⟨_, by first | rfl | (simp [errW_none, errW_some] <;> rfl) | (simp [*, errW_none, errW_some] <;> rfl), by exact Kd.R_mono (Kd.R_far (p := ⟨gb264, 2, none⟩) (Kd.R_far (p := ⟨gb264, 1, none⟩) (Kd.R_far (p := ⟨gb264, 0, none⟩) (Kd.R_types HO_266002.out BK264.out (by decide)) (fun _ hk => hk.2) (.int .i64 t266)) (fun _ hk => hk.2) (.int .i64 t269)) (fun _ hk => hk.2) (.slice Ao42 x266002_2.length co42)) (fun _ hk => trivial), by repeat (first | (with_reducible first | exact HB.out | apply below_alloc | apply pw_below_drewN | apply below_drew1 | refine below_set ?_ GE264.out | refine below_set ?_ GE265.out) | exact HB.out)⟩
           ·rw [if_neg c39] at H
            have c39b0 : (t272.toList == a0.toList) = false := beq_eq_false_iff_ne.mpr c39
            have c39b1 : (t272.toList != a0.toList) = true := bne_iff_ne.mpr c39
            simp only [Option.some.injEq, Prod.mk.injEq] at H
            obtain ⟨rfl, rfl, rfl, rfl⟩ := H
            have hnb46 := NB265_264.out
            have hnc46 := NB264_265.out
            have hcz47_0 : wc.cell? ⟨gb265, 0, none⟩ = some (.int .i64 t266) := (blk_cell BK265.out 0).trans rfl
            have hcz47_1 : wc.cell? ⟨gb265, 1, none⟩ = some (.int .i64 t269) := (blk_cell BK265.out 1).trans rfl
            have hcz47_2 : wc.cell? ⟨gb265, 2, none⟩ = some (u266002) := (blk_cell BK265.out 2).trans rfl
            have hfz47_0 := blk_frozen BK265.out 0
            have hfz47_1 := blk_frozen BK265.out 1
            have hfz47_2 := blk_frozen BK265.out 2
            obtain ⟨Ao48, co48, eo48⟩ := Kd.R_slice HO_266002.out
            subst eo48
            go_wp2_with (first | ((with_reducible refine gate_callee (f := 22) rfl ?_); refine goesL_ (some 95) rfl rfl Tryd.func22 (by kernel_rfl) rfl #[.agg #[.int .i64 t266, .int .i64 t269, .slice Ao48 x266002_2.length co48]] rfl (by (try simp only [List.map_toArray, List.map_cons, List.map_nil]); first | done | rfl | (simp only [List.length_drop, List.length_take]; rfl)) ?_; (with_reducible refine (ententeref03_Show.calls kj14 t266 t269 _ _ x266002_2 t272 t273 _ ?side1 ?side2 A36.out).mono ?_); (case side1 => exact (Kd.R_reads' HO_266002.out).2.2); (case side2 => exact (Kd.R_reads' HO_266002.out).2.1); rintro e w49 ⟨rfl, hb⟩; refine ⟨_, rfl, ?_⟩; have n0_ := Aside0.mk (Kd.R_below (by exact HO_266002.out) hb); have n1_ := Aside0.mk (blk_below (g := gb264) (o := .cells #[.int .i64 x265000_2, .int .i64 x265001_2, .slice none 0 0] 24 (0, 0)) (by exact BK264.out) hb); have n2_ := Aside0.mk (blk_below (g := gb265) (o := .cells #[.int .i64 t266, .int .i64 t269, .slice Ao48 x266002_2.length co48] 24 (0, 0)) (by exact BK265.out) hb); have n3_ := Aside0.mk (below_step HB.out hb); clear HO_266002; clear BK264; clear BK265; clear HB; have HO_266002 := n0_; have BK264 := n1_; have BK265 := n2_; have HB := n3_; clear n0_ n1_ n2_ n3_; (try clear hb); (try clear hb2); (try clear hk); (try clear hi); have hcz50_0 : w49.cell? ⟨gb264, 0, none⟩ = some (.int .i64 x265000_2) := (blk_cell BK264.out 0).trans rfl; have hcz50_1 : w49.cell? ⟨gb264, 1, none⟩ = some (.int .i64 x265001_2) := (blk_cell BK264.out 1).trans rfl; have hcz50_2 : w49.cell? ⟨gb264, 2, none⟩ = some (.slice none 0 0) := (blk_cell BK264.out 2).trans rfl; have hfz50_0 := blk_frozen BK264.out 0; have hfz50_1 := blk_frozen BK264.out 1; have hfz50_2 := blk_frozen BK264.out 2))
            refine bodyPost_ret (results_ct rfl _ _ gb264 24 #[.int .i64 0, .int .i64 0, .slice none 0 0] (0, 0) _ rfl (by refine blk_put (cs := #[.int .i64 0, .int .i64 0, .slice none 0 0]) ?_ 2 _ rfl; refine blk_put (cs := #[.int .i64 0, .int .i64 x265001_2, .slice none 0 0]) ?_ 1 _ rfl; refine blk_put (cs := #[.int .i64 x265000_2, .int .i64 x265001_2, .slice none 0 0]) ?_ 0 _ rfl; exact BK264.out) Tryd.underlying24 rfl (by kernel_rfl)) rfl ?_
            exact ⟨_, by first | rfl | (simp [errW_none, errW_some] <;> rfl) | (simp [*, errW_none, errW_some] <;> rfl), by first | exact Kd.R_nil _ _ _ _ _ | exact Kd.N_nil _ _ _ _ _ | exact Kd.V_nil _ _ _ _ _ | exact Kd.Q_nil _ _ _ _ _ | exact Kd.S_nil _ _ _ _ _, by repeat (first | (with_reducible first | exact HB.out | apply below_alloc | apply pw_below_drewN | apply below_drew1 | refine below_set ?_ GE264.out | refine below_set ?_ GE265.out) | exact HB.out)⟩
          ·rw [if_neg c38] at H
           have c38b0 : (t273 == 0) = false := beq_eq_false_iff_ne.mpr c38
           have c38b1 : (t273 != 0) = true := bne_iff_ne.mpr c38
           simp only [Option.some.injEq, Prod.mk.injEq] at H
           obtain ⟨rfl, rfl, rfl, rfl⟩ := H
           have hnb51 := NB265_264.out
           have hnc51 := NB264_265.out
           have hcz52_0 : wc.cell? ⟨gb265, 0, none⟩ = some (.int .i64 t266) := (blk_cell BK265.out 0).trans rfl
           have hcz52_1 : wc.cell? ⟨gb265, 1, none⟩ = some (.int .i64 t269) := (blk_cell BK265.out 1).trans rfl
           have hcz52_2 : wc.cell? ⟨gb265, 2, none⟩ = some (u266002) := (blk_cell BK265.out 2).trans rfl
           have hfz52_0 := blk_frozen BK265.out 0
           have hfz52_1 := blk_frozen BK265.out 1
           have hfz52_2 := blk_frozen BK265.out 2
           obtain ⟨Ao53, co53, eo53⟩ := Kd.R_slice HO_266002.out
           subst eo53
           go_wp2_with (first | ((with_reducible refine gate_callee (f := 22) rfl ?_); refine goesL_ (some 95) rfl rfl Tryd.func22 (by kernel_rfl) rfl #[.agg #[.int .i64 t266, .int .i64 t269, .slice Ao53 x266002_2.length co53]] rfl (by (try simp only [List.map_toArray, List.map_cons, List.map_nil]); first | done | rfl | (simp only [List.length_drop, List.length_take]; rfl)) ?_; (with_reducible refine (ententeref03_Show.calls kj14 t266 t269 _ _ x266002_2 t272 t273 _ ?side1 ?side2 A36.out).mono ?_); (case side1 => exact (Kd.R_reads' HO_266002.out).2.2); (case side2 => exact (Kd.R_reads' HO_266002.out).2.1); rintro e w54 ⟨rfl, hb⟩; refine ⟨_, rfl, ?_⟩; have n0_ := Aside0.mk (Kd.R_below (by exact HO_266002.out) hb); have n1_ := Aside0.mk (blk_below (g := gb264) (o := .cells #[.int .i64 x265000_2, .int .i64 x265001_2, .slice none 0 0] 24 (0, 0)) (by exact BK264.out) hb); have n2_ := Aside0.mk (blk_below (g := gb265) (o := .cells #[.int .i64 t266, .int .i64 t269, .slice Ao53 x266002_2.length co53] 24 (0, 0)) (by exact BK265.out) hb); have n3_ := Aside0.mk (below_step HB.out hb); clear HO_266002; clear BK264; clear BK265; clear HB; have HO_266002 := n0_; have BK264 := n1_; have BK265 := n2_; have HB := n3_; clear n0_ n1_ n2_ n3_; (try clear hb); (try clear hb2); (try clear hk); (try clear hi); have hcz55_0 : w54.cell? ⟨gb264, 0, none⟩ = some (.int .i64 x265000_2) := (blk_cell BK264.out 0).trans rfl; have hcz55_1 : w54.cell? ⟨gb264, 1, none⟩ = some (.int .i64 x265001_2) := (blk_cell BK264.out 1).trans rfl; have hcz55_2 : w54.cell? ⟨gb264, 2, none⟩ = some (.slice none 0 0) := (blk_cell BK264.out 2).trans rfl; have hfz55_0 := blk_frozen BK264.out 0; have hfz55_1 := blk_frozen BK264.out 1; have hfz55_2 := blk_frozen BK264.out 2))
           refine bodyPost_ret (results_ct rfl _ _ gb264 24 #[.int .i64 0, .int .i64 0, .slice none 0 0] (0, 0) _ rfl (by refine blk_put (cs := #[.int .i64 0, .int .i64 0, .slice none 0 0]) ?_ 2 _ rfl; refine blk_put (cs := #[.int .i64 0, .int .i64 x265001_2, .slice none 0 0]) ?_ 1 _ rfl; refine blk_put (cs := #[.int .i64 x265000_2, .int .i64 x265001_2, .slice none 0 0]) ?_ 0 _ rfl; exact BK264.out) Tryd.underlying24 rfl (by kernel_rfl)) rfl ?_
           exact ⟨_, by first | rfl | (simp [errW_none, errW_some] <;> rfl) | (simp [*, errW_none, errW_some] <;> rfl), by first | exact Kd.R_nil _ _ _ _ _ | exact Kd.N_nil _ _ _ _ _ | exact Kd.V_nil _ _ _ _ _ | exact Kd.Q_nil _ _ _ _ _ | exact Kd.S_nil _ _ _ _ _, by repeat (first | (with_reducible first | exact HB.out | apply below_alloc | apply pw_below_drewN | apply below_drew1 | refine below_set ?_ GE264.out | refine below_set ?_ GE265.out) | exact HB.out)⟩
         ·replace c37 := Bool.eq_false_iff.mpr c37
          subst c37
          have H1 : (some (0, 0, ([] : List (S55)), 30)) = some (r1, r2, r3, r4) := by rw [if_neg (show ¬ (false = true) by decide)] at H; exact H
          clear H
          have H := H1
          clear H1
          simp only [Option.some.injEq, Prod.mk.injEq] at H
          obtain ⟨rfl, rfl, rfl, rfl⟩ := H
          have hnb56 := NB265_264.out
          have hnc56 := NB264_265.out
          have hcz57_0 : wc.cell? ⟨gb265, 0, none⟩ = some (.int .i64 t266) := (blk_cell BK265.out 0).trans rfl
          have hcz57_1 : wc.cell? ⟨gb265, 1, none⟩ = some (.int .i64 t269) := (blk_cell BK265.out 1).trans rfl
          have hcz57_2 : wc.cell? ⟨gb265, 2, none⟩ = some (u266002) := (blk_cell BK265.out 2).trans rfl
          have hfz57_0 := blk_frozen BK265.out 0
          have hfz57_1 := blk_frozen BK265.out 1
          have hfz57_2 := blk_frozen BK265.out 2
          obtain ⟨Ao58, co58, eo58⟩ := Kd.R_slice HO_266002.out
          subst eo58
          go_wp2_with (first | ((with_reducible refine gate_callee (f := 22) rfl ?_); refine goesL_ (some 95) rfl rfl Tryd.func22 (by kernel_rfl) rfl #[.agg #[.int .i64 t266, .int .i64 t269, .slice Ao58 x266002_2.length co58]] rfl (by (try simp only [List.map_toArray, List.map_cons, List.map_nil]); first | done | rfl | (simp only [List.length_drop, List.length_take]; rfl)) ?_; (with_reducible refine (ententeref03_Show.calls kj14 t266 t269 _ _ x266002_2 t272 t273 _ ?side1 ?side2 A36.out).mono ?_); (case side1 => exact (Kd.R_reads' HO_266002.out).2.2); (case side2 => exact (Kd.R_reads' HO_266002.out).2.1); rintro e w59 ⟨rfl, hb⟩; refine ⟨_, rfl, ?_⟩; have n0_ := Aside0.mk (Kd.R_below (by exact HO_266002.out) hb); have n1_ := Aside0.mk (blk_below (g := gb264) (o := .cells #[.int .i64 x265000_2, .int .i64 x265001_2, .slice none 0 0] 24 (0, 0)) (by exact BK264.out) hb); have n2_ := Aside0.mk (blk_below (g := gb265) (o := .cells #[.int .i64 t266, .int .i64 t269, .slice Ao58 x266002_2.length co58] 24 (0, 0)) (by exact BK265.out) hb); have n3_ := Aside0.mk (below_step HB.out hb); clear HO_266002; clear BK264; clear BK265; clear HB; have HO_266002 := n0_; have BK264 := n1_; have BK265 := n2_; have HB := n3_; clear n0_ n1_ n2_ n3_; (try clear hb); (try clear hb2); (try clear hk); (try clear hi); have hcz60_0 : w59.cell? ⟨gb264, 0, none⟩ = some (.int .i64 x265000_2) := (blk_cell BK264.out 0).trans rfl; have hcz60_1 : w59.cell? ⟨gb264, 1, none⟩ = some (.int .i64 x265001_2) := (blk_cell BK264.out 1).trans rfl; have hcz60_2 : w59.cell? ⟨gb264, 2, none⟩ = some (.slice none 0 0) := (blk_cell BK264.out 2).trans rfl; have hfz60_0 := blk_frozen BK264.out 0; have hfz60_1 := blk_frozen BK264.out 1; have hfz60_2 := blk_frozen BK264.out 2))
          refine bodyPost_ret (results_ct rfl _ _ gb264 24 #[.int .i64 0, .int .i64 0, .slice none 0 0] (0, 0) _ rfl (by refine blk_put (cs := #[.int .i64 0, .int .i64 0, .slice none 0 0]) ?_ 2 _ rfl; refine blk_put (cs := #[.int .i64 0, .int .i64 x265001_2, .slice none 0 0]) ?_ 1 _ rfl; refine blk_put (cs := #[.int .i64 x265000_2, .int .i64 x265001_2, .slice none 0 0]) ?_ 0 _ rfl; exact BK264.out) Tryd.underlying24 rfl (by kernel_rfl)) rfl ?_
          exact ⟨_, by first | rfl | (simp [errW_none, errW_some] <;> rfl) | (simp [*, errW_none, errW_some] <;> rfl), by first | exact Kd.R_nil _ _ _ _ _ | exact Kd.N_nil _ _ _ _ _ | exact Kd.V_nil _ _ _ _ _ | exact Kd.Q_nil _ _ _ _ _ | exact Kd.S_nil _ _ _ _ _, by repeat (first | (with_reducible first | exact HB.out | apply below_alloc | apply pw_below_drewN | apply below_drew1 | refine below_set ?_ GE264.out | refine below_set ?_ GE265.out) | exact HB.out)⟩

/-! ### ententelaw03_IdentTexts: function 5 -/
def ententelaw03_IdentTexts.f (k : Nat) (a0_0 : Int) (a0_1 : Int) (l0_2 : List (S55)) (a1 : ByteArray) : Option (Bool) := (ident_Show.f k a0_0 a0_1 l0_2).bind fun bt284 => ((ententeref03_Show.f k a0_0 a0_1 l0_2).bind fun bt286 => ((ident_Parse.f k a1).bind fun bt288 => ((ententeref03_Parse.f k a1).bind fun bt295 => (if bt284.1.toList = bt286.1.toList then (if bt284.2 = bt286.2 then ((ententeref03_Same.f k bt288.1 bt288.2.1 bt288.2.2.1 bt295.1 bt295.2.1 bt295.2.2.1).bind fun t302 => (if t302 = true then (if bt288.2.2.2 = bt295.2.2.2 then ((ententelaw03_awake.f k).bind fun t303 => (some t303)) else (none)) else (none))) else (none)) else (none)))))
theorem ententelaw03_IdentTexts.mono : ∀ a0 a1 a2 a3 k, LeO (ententelaw03_IdentTexts.f k a0 a1 a2 a3) (ententelaw03_IdentTexts.f (k + 1) a0 a1 a2 a3) := by
 intro a0 a1 a2 a3 k
 unfold ententelaw03_IdentTexts.f
 repeat' first
   | (with_reducible exact ententelaw03_awake.mono _)
   | (with_reducible exact ententeref03_Parse.mono _ _)
   | (with_reducible exact ententeref03_Same.mono _ _ _ _ _ _ _)
   | (with_reducible exact ententeref03_Show.mono _ _ _ _)
   | (with_reducible exact ident_Parse.mono _ _)
   | (with_reducible exact ident_Show.mono _ _ _ _)
   | (with_reducible exact LeO.refl _)
   | (with_reducible exact LeO.none _)
   | (with_reducible refine LeO.ite ?_ ?_)
   | (with_reducible refine LeO.bind ?_ (fun _ => ?_))
   | exact ententelaw03_awake.mono _
   | exact ententeref03_Parse.mono _ _
   | exact ententeref03_Same.mono _ _ _ _ _ _ _
   | exact ententeref03_Show.mono _ _ _ _
   | exact ident_Parse.mono _ _
   | exact ident_Show.mono _ _ _ _
   | exact LeO.none _
   | refine LeO.ite ?_ ?_
   | refine LeO.bind ?_ (fun _ => ?_)
set_option maxHeartbeats 8000000 in
set_option maxRecDepth 100000 in
theorem ententelaw03_IdentTexts.calls (k : Nat) (a0_0 : Int) (a0_1 : Int) (A0_2 : Option Addr) (c0_2 : Nat) (l0_2 : List (S55)) (a1 : ByteArray) (r : Bool) (w : World) (hr0_2 : Kd.C k55 w A0_2 l0_2.length l0_2) (hc0_2 : l0_2.length ≤ c0_2) (hw_ : WH w) (h : ententelaw03_IdentTexts.f k a0_0 a0_1 l0_2 a1 = some r) :
  Calls Tryd.prog 5 #[.agg #[.int .i64 a0_0, .int .i64 a0_1, .slice A0_2 l0_2.length c0_2], .string a1] w fun e w' => e = .returned (.bool r) ∧ Below w.heap.size w w' := by
 have hu24 := Tryd.underlying24
 have HR0_2 := Aside0.mk hr0_2
 have HC0_2 := Aside0.mk hc0_2
 clear hr0_2 hc0_2
 have HWH_ := Aside0.mk hw_
 clear hw_
 have HB := Aside0.mk (Below.refl w.heap.size w)
 have H : ((ident_Show.f k a0_0 a0_1 l0_2).bind fun bt284 => ((ententeref03_Show.f k a0_0 a0_1 l0_2).bind fun bt286 => ((ident_Parse.f k a1).bind fun bt288 => ((ententeref03_Parse.f k a1).bind fun bt295 => (if bt284.1.toList = bt286.1.toList then (if bt284.2 = bt286.2 then ((ententeref03_Same.f k bt288.1 bt288.2.1 bt288.2.2.1 bt295.1 bt295.2.1 bt295.2.2.1).bind fun t302 => (if t302 = true then (if bt288.2.2.2 = bt295.2.2.2 then ((ententelaw03_awake.f k).bind fun t303 => (some t303)) else (none)) else (none))) else (none)) else (none)))))) = some r := h
 clear h
 replace H := Option.bind_eq_some_iff.mp H
 obtain ⟨⟨t284, t285⟩, A30, H⟩ := H
 replace H : ((ententeref03_Show.f k a0_0 a0_1 l0_2).bind fun bt286 => ((ident_Parse.f k a1).bind fun bt288 => ((ententeref03_Parse.f k a1).bind fun bt295 => (if t284.toList = bt286.1.toList then (if t285 = bt286.2 then ((ententeref03_Same.f k bt288.1 bt288.2.1 bt288.2.2.1 bt295.1 bt295.2.1 bt295.2.2.1).bind fun t302 => (if t302 = true then (if bt288.2.2.2 = bt295.2.2.2 then ((ententelaw03_awake.f k).bind fun t303 => (some t303)) else (none)) else (none))) else (none)) else (none))))) = some r := H
 have A3 := Aside0.mk A30
 clear A30
 replace H := Option.bind_eq_some_iff.mp H
 obtain ⟨⟨t286, t287⟩, A40, H⟩ := H
 replace H : ((ident_Parse.f k a1).bind fun bt288 => ((ententeref03_Parse.f k a1).bind fun bt295 => (if t284.toList = t286.toList then (if t285 = t287 then ((ententeref03_Same.f k bt288.1 bt288.2.1 bt288.2.2.1 bt295.1 bt295.2.1 bt295.2.2.1).bind fun t302 => (if t302 = true then (if bt288.2.2.2 = bt295.2.2.2 then ((ententelaw03_awake.f k).bind fun t303 => (some t303)) else (none)) else (none))) else (none)) else (none)))) = some r := H
 have A4 := Aside0.mk A40
 clear A40
 replace H := Option.bind_eq_some_iff.mp H
 obtain ⟨⟨t288, t289, t290, t293⟩, A50, H⟩ := H
 replace H : ((ententeref03_Parse.f k a1).bind fun bt295 => (if t284.toList = t286.toList then (if t285 = t287 then ((ententeref03_Same.f k t288 t289 t290 bt295.1 bt295.2.1 bt295.2.2.1).bind fun t302 => (if t302 = true then (if t293 = bt295.2.2.2 then ((ententelaw03_awake.f k).bind fun t303 => (some t303)) else (none)) else (none))) else (none)) else (none))) = some r := H
 have A5 := Aside0.mk A50
 clear A50
 replace H := Option.bind_eq_some_iff.mp H
 obtain ⟨⟨t295, t296, t297, t300⟩, A60, H⟩ := H
 replace H : (if t284.toList = t286.toList then (if t285 = t287 then ((ententeref03_Same.f k t288 t289 t290 t295 t296 t297).bind fun t302 => (if t302 = true then (if t293 = t300 then ((ententelaw03_awake.f k).bind fun t303 => (some t303)) else (none)) else (none))) else (none)) else (none)) = some r := H
 have A6 := Aside0.mk A60
 clear A60
 by_cases c7 : t284.toList = t286.toList
 ·rw [if_pos c7] at H
  have c7b0 : (t284.toList == t286.toList) = true := beq_iff_eq.mpr c7
  have c7b1 : (t284.toList != t286.toList) = false := bne_eq_false_iff_eq.mpr c7
  clear c7
  by_cases c8 : t285 = t287
  ·rw [if_pos c8] at H
   have c8b0 : (t285 == t287) = true := beq_iff_eq.mpr c8
   have c8b1 : (t285 != t287) = false := bne_eq_false_iff_eq.mpr c8
   clear c8
   replace H := Option.bind_eq_some_iff.mp H
   obtain ⟨t302, A90, H⟩ := H
   replace H : (if t302 = true then (if t293 = t300 then ((ententelaw03_awake.f k).bind fun t303 => (some t303)) else (none)) else (none)) = some r := H
   have A9 := Aside0.mk A90
   clear A90
   by_cases c10 : t302 = true
   ·subst c10
    have H1 : (if t293 = t300 then ((ententelaw03_awake.f k).bind fun t303 => (some t303)) else (none)) = some r := by rw [if_pos rfl] at H; exact H
    clear H
    have H := H1
    clear H1
    by_cases c11 : t293 = t300
    ·rw [if_pos c11] at H
     have c11b0 : (t293 == t300) = true := beq_iff_eq.mpr c11
     have c11b1 : (t293 != t300) = false := bne_eq_false_iff_eq.mpr c11
     clear c11
     replace H := Option.bind_eq_some_iff.mp H
     obtain ⟨t303, A120, H⟩ := H
     replace H : (some t303) = some r := H
     have A12 := Aside0.mk A120
     clear A120
     obtain rfl := Option.some.inj H
     go_enter Tryd.func5, Tryd.ntmps5
     go_wp2_with (first | ((with_reducible refine gate_dst (N := 2) rfl ?_); refine box_event ?hg (N := 2) ?hd (cs := #[.int .i64 a0_0, .int .i64 a0_1, .slice A0_2 l0_2.length c0_2]) (t := 24) ?hr ?_; (case hd => rfl); (case hg => rfl); (case hr => first | (go_simp; done) | (go_simp; rfl)); intro gb283 hg w13 hbox hb; have n0_ := Aside0.mk (below_step HB.out hb); have n1_ := Aside0.mk (hbox); have n2_ := Aside0.mk ((by rw [hg]; exact (below_size HB.out) : w.heap.size ≤ gb283)); have n3_ := Aside0.mk ((by rw [hg]; exact (below_size HB.out) : w.heap.size ≤ gb283)); clear HB; have HB := n0_; have BK283 := n1_; have GW283 := n2_; have GE283 := n3_; clear n0_ n1_ n2_ n3_; clear hb hbox hg; have hcz14_0 : w13.cell? ⟨gb283, 0, none⟩ = some (.int .i64 a0_0) := (blk_cell BK283.out 0).trans rfl; have hcz14_1 : w13.cell? ⟨gb283, 1, none⟩ = some (.int .i64 a0_1) := (blk_cell BK283.out 1).trans rfl; have hcz14_2 : w13.cell? ⟨gb283, 2, none⟩ = some (.slice A0_2 l0_2.length c0_2) := (blk_cell BK283.out 2).trans rfl; have hfz14_0 := blk_frozen BK283.out 0; have hfz14_1 := blk_frozen BK283.out 1; have hfz14_2 := blk_frozen BK283.out 2) | ((with_reducible refine gate_callee (f := 21) rfl ?_); refine goesL_ (some 15) rfl rfl Tryd.func21 (by kernel_rfl) rfl #[.agg #[.int .i64 a0_0, .int .i64 a0_1, .slice A0_2 l0_2.length c0_2]] rfl (by (try simp only [List.map_toArray, List.map_cons, List.map_nil]); first | done | rfl | (simp only [List.length_drop, List.length_take]; rfl)) ?_; (with_reducible refine (ident_Show.calls k a0_0 a0_1 _ _ l0_2 t284 t285 _ ?side1 ?side2 ?side3 A3.out).mono ?_); (case side1 => exact (Kd.C_below HR0_2.out HB.out)); (case side2 => exact HC0_2.out); (case side3 => exact WH.below HWH_.out HB.out); rintro e w15 ⟨rfl, hb⟩; refine ⟨_, rfl, ?_⟩; have n0_ := Aside0.mk (blk_below (g := gb283) (o := .cells #[.int .i64 a0_0, .int .i64 a0_1, .slice A0_2 l0_2.length c0_2] 24 (0, 0)) (by exact BK283.out) hb); have n1_ := Aside0.mk (below_step HB.out hb); clear BK283; clear HB; have BK283 := n0_; have HB := n1_; clear n0_ n1_; (try clear hb); (try clear hb2); (try clear hk); (try clear hi); have hcz16_0 : w15.cell? ⟨gb283, 0, none⟩ = some (.int .i64 a0_0) := (blk_cell BK283.out 0).trans rfl; have hcz16_1 : w15.cell? ⟨gb283, 1, none⟩ = some (.int .i64 a0_1) := (blk_cell BK283.out 1).trans rfl; have hcz16_2 : w15.cell? ⟨gb283, 2, none⟩ = some (.slice A0_2 l0_2.length c0_2) := (blk_cell BK283.out 2).trans rfl; have hfz16_0 := blk_frozen BK283.out 0; have hfz16_1 := blk_frozen BK283.out 1; have hfz16_2 := blk_frozen BK283.out 2) | ((with_reducible refine gate_callee (f := 22) rfl ?_); refine goesL_ (some 20) rfl rfl Tryd.func22 (by kernel_rfl) rfl #[.agg #[.int .i64 a0_0, .int .i64 a0_1, .slice A0_2 l0_2.length c0_2]] rfl (by (try simp only [List.map_toArray, List.map_cons, List.map_nil]); first | done | rfl | (simp only [List.length_drop, List.length_take]; rfl)) ?_; (with_reducible refine (ententeref03_Show.calls k a0_0 a0_1 _ _ l0_2 t286 t287 _ ?side1 ?side2 A4.out).mono ?_); (case side1 => exact (Kd.C_below HR0_2.out HB.out)); (case side2 => exact HC0_2.out); rintro e w17 ⟨rfl, hb⟩; refine ⟨_, rfl, ?_⟩; have n0_ := Aside0.mk (blk_below (g := gb283) (o := .cells #[.int .i64 a0_0, .int .i64 a0_1, .slice A0_2 l0_2.length c0_2] 24 (0, 0)) (by exact BK283.out) hb); have n1_ := Aside0.mk (below_step HB.out hb); clear BK283; clear HB; have BK283 := n0_; have HB := n1_; clear n0_ n1_; (try clear hb); (try clear hb2); (try clear hk); (try clear hi)) | ((with_reducible refine gate_callee (f := 23) rfl ?_); refine goesL_ (some 25) rfl rfl Tryd.func23 (by kernel_rfl) rfl #[.string a1] rfl (by (try simp only [List.map_toArray, List.map_cons, List.map_nil]); first | done | rfl | (simp only [List.length_drop, List.length_take]; rfl)) ?_; (with_reducible refine (ident_Parse.calls k a1 t288 t289 t290 t293 _ ?side1 A5.out).mono ?_); (case side1 => exact WH.below HWH_.out HB.out); rintro e w18 ⟨v291, rfl, ho0, hb⟩; refine ⟨_, rfl, ?_⟩; have n0_ := Aside0.mk (Kd.R_lower ho0 (below_size HB.out)); have n1_ := Aside0.mk (blk_below (g := gb283) (o := .cells #[.int .i64 a0_0, .int .i64 a0_1, .slice A0_2 l0_2.length c0_2] 24 (0, 0)) (by exact BK283.out) hb); have n2_ := Aside0.mk (below_step HB.out hb); clear BK283; clear HB; have HO292 := n0_; have BK283 := n1_; have HB := n2_; clear n0_ n1_ n2_; (try clear hb); (try clear hb2); (try clear hk); (try clear hi); (try clear ho0)) | ((with_reducible refine gate_dst (N := 9) rfl ?_); refine box_event ?hg (N := 9) ?hd (cs := #[.int .i64 0, .int .i64 0, .slice none 0 0]) (t := 24) ?hr ?_; (case hd => rfl); (case hg => rfl); (case hr => first | (go_simp; done) | (go_simp; rfl)); intro gb294 hg w19 hbox hb; have n0_ := Aside0.mk (Kd.R_below (by exact HO292.out) hb); have n1_ := Aside0.mk (blk_below (g := gb283) (o := .cells #[.int .i64 a0_0, .int .i64 a0_1, .slice A0_2 l0_2.length c0_2] 24 (0, 0)) (by exact BK283.out) hb); have n2_ := Aside0.mk (below_step HB.out hb); have n3_ := Aside0.mk (hbox); have n4_ := Aside0.mk ((by rw [hg]; exact (below_size HB.out) : w.heap.size ≤ gb294)); have n5_ := Aside0.mk ((by rw [hg]; exact (below_size HB.out) : w.heap.size ≤ gb294)); have n6_ := Aside0.mk ((by rw [hg]; exact Nat.ne_of_lt (blk_lt (g := gb283) (o := .cells #[.int .i64 a0_0, .int .i64 a0_1, .slice A0_2 l0_2.length c0_2] 24 (0, 0)) (by exact BK283.out)) : gb283 ≠ gb294)); have n7_ := Aside0.mk ((by rw [hg]; exact Nat.ne_of_gt (blk_lt (g := gb283) (o := .cells #[.int .i64 a0_0, .int .i64 a0_1, .slice A0_2 l0_2.length c0_2] 24 (0, 0)) (by exact BK283.out)) : gb294 ≠ gb283)); clear HO292; clear BK283; clear HB; have HO292 := n0_; have BK283 := n1_; have HB := n2_; have BK294 := n3_; have GW294 := n4_; have GE294 := n5_; have NB283_294 := n6_; have NB294_283 := n7_; clear n0_ n1_ n2_ n3_ n4_ n5_ n6_ n7_; clear hb hbox hg; have hnb20 := NB294_283.out; have hnc20 := NB283_294.out; have hcz21_0 : w19.cell? ⟨gb294, 0, none⟩ = some (.int .i64 0) := (blk_cell BK294.out 0).trans rfl; have hcz21_1 : w19.cell? ⟨gb294, 1, none⟩ = some (.int .i64 0) := (blk_cell BK294.out 1).trans rfl; have hcz21_2 : w19.cell? ⟨gb294, 2, none⟩ = some (.slice none 0 0) := (blk_cell BK294.out 2).trans rfl; have hfz21_0 := blk_frozen BK294.out 0; have hfz21_1 := blk_frozen BK294.out 1; have hfz21_2 := blk_frozen BK294.out 2; obtain ⟨Ao22, co22, eo22⟩ := Kd.R_slice HO292.out; subst eo22) | ((with_reducible refine gate_callee (f := 24) rfl ?_); refine goesL_ (some 30) rfl rfl Tryd.func24 (by kernel_rfl) rfl #[.string a1] rfl (by (try simp only [List.map_toArray, List.map_cons, List.map_nil]); first | done | rfl | (simp only [List.length_drop, List.length_take]; rfl)) ?_; (with_reducible refine (ententeref03_Parse.calls k a1 t295 t296 t297 t300 _ A6.out).mono ?_); rintro e w23 ⟨v298, rfl, ho0, hb⟩; refine ⟨_, rfl, ?_⟩; have n0_ := Aside0.mk (Kd.R_elder' (by exact (Kd.R_mono (Kd.R_far (p := ⟨gb294, 2, none⟩) (Kd.R_far (p := ⟨gb294, 1, none⟩) (Kd.R_far (p := ⟨gb294, 0, none⟩) (Kd.R_types HO292.out BK294.out (by decide)) (fun _ hk => hk.2) (.int .i64 t288)) (fun _ hk => hk.2) (.int .i64 t289)) (fun _ hk => hk.2) (.slice Ao22 t290.length co22)) (fun _ h_ => h_.1))) (Kd.R_base ho0) hb); have n1_ := Aside0.mk (Kd.R_lower (Kd.R_new' ho0 (Kd.R_lt (by exact (Kd.R_mono (Kd.R_far (p := ⟨gb294, 2, none⟩) (Kd.R_far (p := ⟨gb294, 1, none⟩) (Kd.R_far (p := ⟨gb294, 0, none⟩) (Kd.R_types HO292.out BK294.out (by decide)) (fun _ hk => hk.2) (.int .i64 t288)) (fun _ hk => hk.2) (.int .i64 t289)) (fun _ hk => hk.2) (.slice Ao22 t290.length co22)) (fun _ h_ => h_.1))))) (below_size (by repeat (first | (with_reducible first | exact HB.out | apply below_alloc | apply pw_below_drewN | apply below_drew1 | refine below_set ?_ GE283.out | refine below_set ?_ GE294.out) | exact HB.out)))); have n2_ := Aside0.mk (blk_below (g := gb283) (o := .cells #[.int .i64 a0_0, .int .i64 a0_1, .slice A0_2 l0_2.length c0_2] 24 (0, 0)) (by refine blk_far ?_ NB283_294.out _; refine blk_far ?_ NB283_294.out _; refine blk_far ?_ NB283_294.out _; exact BK283.out) hb); have n3_ := Aside0.mk (blk_below (g := gb294) (o := .cells #[.int .i64 t288, .int .i64 t289, .slice Ao22 t290.length co22] 24 (0, 0)) (by refine blk_put (cs := #[.int .i64 t288, .int .i64 t289, .slice none 0 0]) ?_ 2 _ rfl; refine blk_put (cs := #[.int .i64 t288, .int .i64 0, .slice none 0 0]) ?_ 1 _ rfl; refine blk_put (cs := #[.int .i64 0, .int .i64 0, .slice none 0 0]) ?_ 0 _ rfl; exact BK294.out) hb); have n4_ := Aside0.mk (below_step (by repeat (first | (with_reducible first | exact HB.out | apply below_alloc | apply pw_below_drewN | apply below_drew1 | refine below_set ?_ GE283.out | refine below_set ?_ GE294.out) | exact HB.out)) hb); clear HO292; clear BK283; clear BK294; clear HB; have HO292 := n0_; have HO299 := n1_; have BK283 := n2_; have BK294 := n3_; have HB := n4_; clear n0_ n1_ n2_ n3_ n4_; (try clear hb); (try clear hb2); (try clear hk); (try clear hi); (try clear ho0)) | ((with_reducible refine gate_dst (N := 11) rfl ?_); refine box_event ?hg (N := 11) ?hd (cs := #[.int .i64 0, .int .i64 0, .slice none 0 0]) (t := 24) ?hr ?_; (case hd => rfl); (case hg => rfl); (case hr => first | (go_simp; done) | (go_simp; rfl)); intro gb301 hg w24 hbox hb; have n0_ := Aside0.mk (Kd.R_below (by exact HO292.out) hb); have n1_ := Aside0.mk (Kd.R_below (by exact HO299.out) hb); have n2_ := Aside0.mk (blk_below (g := gb283) (o := .cells #[.int .i64 a0_0, .int .i64 a0_1, .slice A0_2 l0_2.length c0_2] 24 (0, 0)) (by exact BK283.out) hb); have n3_ := Aside0.mk (blk_below (g := gb294) (o := .cells #[.int .i64 t288, .int .i64 t289, .slice Ao22 t290.length co22] 24 (0, 0)) (by exact BK294.out) hb); have n4_ := Aside0.mk (below_step HB.out hb); have n5_ := Aside0.mk (hbox); have n6_ := Aside0.mk ((by rw [hg]; exact (below_size HB.out) : w.heap.size ≤ gb301)); have n7_ := Aside0.mk ((by rw [hg]; exact (below_size HB.out) : w.heap.size ≤ gb301)); have n8_ := Aside0.mk ((by rw [hg]; exact Nat.ne_of_lt (blk_lt (g := gb283) (o := .cells #[.int .i64 a0_0, .int .i64 a0_1, .slice A0_2 l0_2.length c0_2] 24 (0, 0)) (by exact BK283.out)) : gb283 ≠ gb301)); have n9_ := Aside0.mk ((by rw [hg]; exact Nat.ne_of_gt (blk_lt (g := gb283) (o := .cells #[.int .i64 a0_0, .int .i64 a0_1, .slice A0_2 l0_2.length c0_2] 24 (0, 0)) (by exact BK283.out)) : gb301 ≠ gb283)); have n10_ := Aside0.mk ((by rw [hg]; exact Nat.ne_of_lt (blk_lt (g := gb294) (o := .cells #[.int .i64 t288, .int .i64 t289, .slice Ao22 t290.length co22] 24 (0, 0)) (by exact BK294.out)) : gb294 ≠ gb301)); have n11_ := Aside0.mk ((by rw [hg]; exact Nat.ne_of_gt (blk_lt (g := gb294) (o := .cells #[.int .i64 t288, .int .i64 t289, .slice Ao22 t290.length co22] 24 (0, 0)) (by exact BK294.out)) : gb301 ≠ gb294)); clear HO292; clear HO299; clear BK283; clear BK294; clear HB; have HO292 := n0_; have HO299 := n1_; have BK283 := n2_; have BK294 := n3_; have HB := n4_; have BK301 := n5_; have GW301 := n6_; have GE301 := n7_; have NB283_301 := n8_; have NB301_283 := n9_; have NB294_301 := n10_; have NB301_294 := n11_; clear n0_ n1_ n2_ n3_ n4_ n5_ n6_ n7_ n8_ n9_ n10_ n11_; clear hb hbox hg; have hnb25 := NB301_283.out; have hnc25 := NB283_301.out; have hnb26 := NB301_294.out; have hnc26 := NB294_301.out; have hcz27_0 : w24.cell? ⟨gb301, 0, none⟩ = some (.int .i64 0) := (blk_cell BK301.out 0).trans rfl; have hcz27_1 : w24.cell? ⟨gb301, 1, none⟩ = some (.int .i64 0) := (blk_cell BK301.out 1).trans rfl; have hcz27_2 : w24.cell? ⟨gb301, 2, none⟩ = some (.slice none 0 0) := (blk_cell BK301.out 2).trans rfl; have hfz27_0 := blk_frozen BK301.out 0; have hfz27_1 := blk_frozen BK301.out 1; have hfz27_2 := blk_frozen BK301.out 2; obtain ⟨Ao28, co28, eo28⟩ := Kd.R_slice HO299.out; subst eo28; have hcz29_0 : w24.cell? ⟨gb294, 0, none⟩ = some (.int .i64 t288) := (blk_cell BK294.out 0).trans rfl; have hcz29_1 : w24.cell? ⟨gb294, 1, none⟩ = some (.int .i64 t289) := (blk_cell BK294.out 1).trans rfl; have hcz29_2 : w24.cell? ⟨gb294, 2, none⟩ = some (.slice Ao22 t290.length co22) := (blk_cell BK294.out 2).trans rfl; have hfz29_0 := blk_frozen BK294.out 0; have hfz29_1 := blk_frozen BK294.out 1; have hfz29_2 := blk_frozen BK294.out 2) | (go_at_call 16; (with_reducible refine (ententeref03_Same.calls k t288 t289 _ _ t290 t295 t296 _ _ t297 true _ ?side1 ?side2 ?side3 ?side4 A9.out).mono ?_); (case side1 => refine (Kd.R_reads' (e := 55) (base := w.heap.size) (ok := fun k_ => (True ∧ some k_ ≠ (.slice Ao28 t297.length co28 : Value).ownBlock)) (n := t290.length) (c := co22) ?_).2.2; exact (by exact (Kd.R_mono (Kd.R_far (p := ⟨gb301, 2, none⟩) (Kd.R_far (p := ⟨gb301, 1, none⟩) (Kd.R_far (p := ⟨gb301, 0, none⟩) (Kd.R_types HO292.out BK301.out (by decide)) (fun _ hk => hk.2) (.int .i64 t295)) (fun _ hk => hk.2) (.int .i64 t296)) (fun _ hk => hk.2) (.slice Ao28 t297.length co28)) (fun _ h_ => h_.1)))); (case side2 => exact (Kd.R_reads' HO292.out).2.1); (case side3 => refine (Kd.R_reads' (e := 55) (base := w.heap.size) (ok := fun k_ => (True ∧ some k_ ≠ (.slice Ao22 t290.length co22 : Value).ownBlock)) (n := t297.length) (c := co28) ?_).2.2; exact (by exact (Kd.R_mono (Kd.R_far (p := ⟨gb301, 2, none⟩) (Kd.R_far (p := ⟨gb301, 1, none⟩) (Kd.R_far (p := ⟨gb301, 0, none⟩) (Kd.R_types HO299.out BK301.out (by decide)) (fun _ hk => hk.2) (.int .i64 t295)) (fun _ hk => hk.2) (.int .i64 t296)) (fun _ hk => hk.2) (.slice Ao28 t297.length co28)) (fun _ h_ => h_.1)))); (case side4 => exact (Kd.R_reads' HO299.out).2.1); rintro e w30 ⟨rfl, hb⟩; have n0_ := Aside0.mk (Kd.R_below (by exact (Kd.R_mono (Kd.R_far (p := ⟨gb301, 2, none⟩) (Kd.R_far (p := ⟨gb301, 1, none⟩) (Kd.R_far (p := ⟨gb301, 0, none⟩) (Kd.R_types HO292.out BK301.out (by decide)) (fun _ hk => hk.2) (.int .i64 t295)) (fun _ hk => hk.2) (.int .i64 t296)) (fun _ hk => hk.2) (.slice Ao28 t297.length co28)) (fun _ h_ => h_.1))) hb); have n1_ := Aside0.mk (Kd.R_below (by exact (Kd.R_mono (Kd.R_far (p := ⟨gb301, 2, none⟩) (Kd.R_far (p := ⟨gb301, 1, none⟩) (Kd.R_far (p := ⟨gb301, 0, none⟩) (Kd.R_types HO299.out BK301.out (by decide)) (fun _ hk => hk.2) (.int .i64 t295)) (fun _ hk => hk.2) (.int .i64 t296)) (fun _ hk => hk.2) (.slice Ao28 t297.length co28)) (fun _ h_ => h_.1))) hb); have n2_ := Aside0.mk (blk_below (g := gb283) (o := .cells #[.int .i64 a0_0, .int .i64 a0_1, .slice A0_2 l0_2.length c0_2] 24 (0, 0)) (by refine blk_far ?_ NB283_301.out _; refine blk_far ?_ NB283_301.out _; refine blk_far ?_ NB283_301.out _; exact BK283.out) hb); have n3_ := Aside0.mk (blk_below (g := gb294) (o := .cells #[.int .i64 t288, .int .i64 t289, .slice Ao22 t290.length co22] 24 (0, 0)) (by refine blk_far ?_ NB294_301.out _; refine blk_far ?_ NB294_301.out _; refine blk_far ?_ NB294_301.out _; exact BK294.out) hb); have n4_ := Aside0.mk (blk_below (g := gb301) (o := .cells #[.int .i64 t295, .int .i64 t296, .slice Ao28 t297.length co28] 24 (0, 0)) (by refine blk_put (cs := #[.int .i64 t295, .int .i64 t296, .slice none 0 0]) ?_ 2 _ rfl; refine blk_put (cs := #[.int .i64 t295, .int .i64 0, .slice none 0 0]) ?_ 1 _ rfl; refine blk_put (cs := #[.int .i64 0, .int .i64 0, .slice none 0 0]) ?_ 0 _ rfl; exact BK301.out) hb); have n5_ := Aside0.mk (below_step (by repeat (first | (with_reducible first | exact HB.out | apply below_alloc | apply pw_below_drewN | apply below_drew1 | refine below_set ?_ GE283.out | refine below_set ?_ GE294.out | refine below_set ?_ GE301.out) | exact HB.out)) hb); clear HO292; clear HO299; clear BK283; clear BK294; clear BK301; clear HB; have HO292 := n0_; have HO299 := n1_; have BK283 := n2_; have BK294 := n3_; have BK301 := n4_; have HB := n5_; clear n0_ n1_ n2_ n3_ n4_ n5_; (try clear hb); (try clear hb2); (try clear hk); (try clear hi)) | (go_at_call 11; (with_reducible refine (ententelaw03_awake.calls k  t303 _ ?side1 A12.out).mono ?_); (case side1 => exact WH.below HWH_.out HB.out); rintro e w31 ⟨rfl, hb⟩; have n0_ := Aside0.mk (Kd.R_below (by exact HO292.out) hb); have n1_ := Aside0.mk (Kd.R_below (by exact HO299.out) hb); have n2_ := Aside0.mk (blk_below (g := gb283) (o := .cells #[.int .i64 a0_0, .int .i64 a0_1, .slice A0_2 l0_2.length c0_2] 24 (0, 0)) (by exact BK283.out) hb); have n3_ := Aside0.mk (blk_below (g := gb294) (o := .cells #[.int .i64 t288, .int .i64 t289, .slice Ao22 t290.length co22] 24 (0, 0)) (by exact BK294.out) hb); have n4_ := Aside0.mk (blk_below (g := gb301) (o := .cells #[.int .i64 t295, .int .i64 t296, .slice Ao28 t297.length co28] 24 (0, 0)) (by exact BK301.out) hb); have n5_ := Aside0.mk (below_step HB.out hb); clear HO292; clear HO299; clear BK283; clear BK294; clear BK301; clear HB; have HO292 := n0_; have HO299 := n1_; have BK283 := n2_; have BK294 := n3_; have BK301 := n4_; have HB := n5_; clear n0_ n1_ n2_ n3_ n4_ n5_; (try clear hb); (try clear hb2); (try clear hk); (try clear hi)))
     go_ret
     exact ⟨by first | rfl | (simp [errW_none, errW_some] <;> rfl) | (simp [*, errW_none, errW_some] <;> rfl), HB.out⟩
    ·rw [if_neg c11] at H
     exact absurd H (by simp)
   ·replace c10 := Bool.eq_false_iff.mpr c10
    subst c10
    have H1 : (none) = some r := by rw [if_neg (show ¬ (false = true) by decide)] at H; exact H
    clear H
    have H := H1
    clear H1
    exact absurd H (by simp)
  ·rw [if_neg c8] at H
   exact absurd H (by simp)
 ·rw [if_neg c7] at H
  exact absurd H (by simp)

end Go.Proofs.YtnlljacklhgfgaaDoor.PI

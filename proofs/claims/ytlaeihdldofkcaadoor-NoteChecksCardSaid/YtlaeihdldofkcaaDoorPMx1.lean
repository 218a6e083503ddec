/- The machine side of this seat's laws: plain functions, and proofs that the calls do what they say; written by a program of this session over the translation; no conditions beyond those typed. -/
import Derived.Test.YtlaeihdldofkcaaDoorPMx0
namespace Go.Proofs.YtlaeihdldofkcaaDoor.PN
open Go.RowKit Go.Proofs.YtlaeihdldofkcaaDoorW.PrintWords Go.Proofs.YtlaeihdldofkcaaDoorW.PrintLast Go.Proofs.YtlaeihdldofkcaaDoorW.PrintMore
attribute [local go_sem] max2_int min2_int max_two min_two max_three min_three max_four min_four   -- for this text's walks alone
set_option linter.unusedVariables false
set_option linter.unusedSimpArgs false

/-! ### ententelaw13_few: function 6 -/
def ententelaw13_few.f (a0_0 : Int) (a0_1 : Int) (a0_2 : Int) (l0_3 : List (S50)) (a0_4 : ByteArray) (a0_5 : Int) : Option (Bool) := if (l0_3.length : Int) ≤ 200 then (some (decide ((a0_4.size : Int) ≤ 10000))) else (some false)
set_option maxHeartbeats 8000000 in
set_option maxRecDepth 100000 in
theorem ententelaw13_few.calls (a0_0 : Int) (a0_1 : Int) (a0_2 : Int) (A0_3 : Option Addr) (c0_3 : Nat) (l0_3 : List (S50)) (a0_4 : ByteArray) (a0_5 : Int) (r : Bool) (w : World) (hr0_3 : Kd.C k50 w A0_3 l0_3.length l0_3) (hc0_3 : l0_3.length ≤ c0_3) (h : ententelaw13_few.f a0_0 a0_1 a0_2 l0_3 a0_4 a0_5 = some r) :
  Calls Tryd.prog 6 #[.agg #[.int .i64 a0_0, .int .i64 a0_1, .int .i64 a0_2, .slice A0_3 l0_3.length c0_3, .string a0_4, .int .i64 a0_5]] w fun e w' => e = .returned (.bool r) ∧ Below w.heap.size w w' := by
 have hu26 := Tryd.underlying26
 have HR0_3 := Aside0.mk hr0_3
 have HC0_3 := Aside0.mk hc0_3
 clear hr0_3 hc0_3
 have HB := Aside0.mk (Below.refl w.heap.size w)
 have H : (if (l0_3.length : Int) ≤ 200 then (some (decide ((a0_4.size : Int) ≤ 10000))) else (some false)) = some r := h
 clear h
 by_cases c2 : (l0_3.length : Int) ≤ 200
 ·rw [if_pos c2] at H
  have c2b0 : decide ((l0_3.length : Int) ≤ 200) = true := decide_eq_true c2
  have c2b1 : decide (l0_3.length ≤ 200) = true := decide_eq_true (by omega)
  clear c2
  obtain rfl := Option.some.inj H
  go_enter Tryd.func6, Tryd.ntmps6
  go_wp2_with (first | ((with_reducible refine gate_dst (N := 1) rfl ?_); (try (refine gate_guard (by rfl) ?_; dsimp only)); refine box_event ?hg (N := 1) ?hd (cs := #[.int .i64 a0_0, .int .i64 a0_1, .int .i64 a0_2, .slice A0_3 l0_3.length c0_3, .string a0_4, .int .i64 a0_5]) (t := 26) ?hr ?_; (case hd => rfl); (case hg => rfl); (case hr => (go_simp; done)); intro gb101 hg w3 hbox hb; have BK101 := Aside0.mk (hbox); have GW101 := Aside0.mk ((by rw [hg]; exact (below_size (HB.out)) : w.heap.size ≤ gb101)); have GE101 := Aside0.mk ((by rw [hg]; exact (below_size (HB.out)) : w.heap.size ≤ gb101)); replace HB := Aside0.mk (below_step (HB.out) hb); clear hb hbox hg; obtain ⟨hcz4_0, hcz4_1, hcz4_2, hcz4_3, hcz4_4, hcz4_5⟩ := bc6 BK101.out; obtain ⟨hfz4_0, hfz4_1, hfz4_2, hfz4_3, hfz4_4, hfz4_5⟩ := bf6 BK101.out))
  go_ret
  exact ⟨by rfl, HB.out⟩
 ·rw [if_neg c2] at H
  have c2b0 : decide ((l0_3.length : Int) ≤ 200) = false := decide_eq_false c2
  have c2b1 : decide (l0_3.length ≤ 200) = false := decide_eq_false (by omega)
  clear c2
  obtain rfl := Option.some.inj H
  go_enter Tryd.func6, Tryd.ntmps6
  go_wp2_with (first | ((with_reducible refine gate_dst (N := 1) rfl ?_); (try (refine gate_guard (by rfl) ?_; dsimp only)); refine box_event ?hg (N := 1) ?hd (cs := #[.int .i64 a0_0, .int .i64 a0_1, .int .i64 a0_2, .slice A0_3 l0_3.length c0_3, .string a0_4, .int .i64 a0_5]) (t := 26) ?hr ?_; (case hd => rfl); (case hg => rfl); (case hr => (go_simp; done)); intro gb101 hg w5 hbox hb; have BK101 := Aside0.mk (hbox); have GW101 := Aside0.mk ((by rw [hg]; exact (below_size (HB.out)) : w.heap.size ≤ gb101)); have GE101 := Aside0.mk ((by rw [hg]; exact (below_size (HB.out)) : w.heap.size ≤ gb101)); replace HB := Aside0.mk (below_step (HB.out) hb); clear hb hbox hg; obtain ⟨hcz6_0, hcz6_1, hcz6_2, hcz6_3, hcz6_4, hcz6_5⟩ := bc6 BK101.out; obtain ⟨hfz6_0, hfz6_1, hfz6_2, hfz6_3, hfz6_4, hfz6_5⟩ := bf6 BK101.out))
  go_ret
  exact ⟨by rfl, HB.out⟩

/-! ### ident_path: function 40 -/
def ident_path.l0 : Nat → List Int → List (S50) → Int → Int → Option (List Int)
 | 0, _, _, _, _ => none
 | k + 1, x3, x10, x11, x12 => if x12 < x11 then (if 0 ≤ x12 then (if x12 < (x10.length : Int) then (if x3.length < 17592186044416 then (ident_path.l0 k (x3 ++ [(rd_T50 x10 x12).f1]) x10 x11 (wrap64 (x12 + 1))) else (none)) else (none)) else (none)) else (some x3)
def ident_path.f (k : Nat) (a0_0 : Int) (a0_1 : Int) (l0_2 : List (S50)) : Option (List Int) := ident_path.l0 k (([a0_0] : List Int)) l0_2 (l0_2.length : Int) 0
theorem ident_path.mono_l : ∀ k, (∀ y0 y1 y2 y3, LeO (ident_path.l0 k y0 y1 y2 y3) (ident_path.l0 (k + 1) y0 y1 y2 y3))
 | 0 => fun _ _ _ _ r h => by simp [ident_path.l0] at h
 | k + 1 => by
  have ih0 := ident_path.mono_l k
  ·intro y0 y1 y2 y3
   unfold ident_path.l0
   repeat' first
   | (with_reducible exact ih0 _ _ _ _)
   | (with_reducible exact LeO.refl _)
   | (with_reducible exact LeO.none _)
   | (with_reducible refine LeO.ite ?_ ?_)
   | (with_reducible refine LeO.bind ?_ (fun _ => ?_))
   | exact ih0 _ _ _ _
   | exact LeO.none _
   | refine LeO.ite ?_ ?_
   | refine LeO.bind ?_ (fun _ => ?_)
theorem ident_path.mono : ∀ a0 a1 a2 k, LeO (ident_path.f k a0 a1 a2) (ident_path.f (k + 1) a0 a1 a2) := by
 intro a0 a1 a2 k
 have ih0 := ident_path.mono_l k
 unfold ident_path.f
 repeat' first
   | (with_reducible exact ih0 _ _ _ _)
   | (with_reducible exact LeO.refl _)
   | (with_reducible exact LeO.none _)
   | (with_reducible refine LeO.ite ?_ ?_)
   | (with_reducible refine LeO.bind ?_ (fun _ => ?_))
   | exact ih0 _ _ _ _
   | exact LeO.none _
   | refine LeO.ite ?_ ?_
   | refine LeO.bind ?_ (fun _ => ?_)
set_option maxHeartbeats 8000000 in
set_option maxRecDepth 100000 in
theorem ident_path.calls (k : Nat) (a0_0 : Int) (a0_1 : Int) (A0_2 : Option Addr) (c0_2 : Nat) (l0_2 : List (S50)) (r : List Int) (w : World) (hr0_2 : Kd.C k50 w A0_2 l0_2.length l0_2) (hc0_2 : l0_2.length ≤ c0_2) (h : ident_path.f k a0_0 a0_1 l0_2 = some r) :
  Calls Tryd.prog 40 #[.agg #[.int .i64 a0_0, .int .i64 a0_1, .slice A0_2 l0_2.length c0_2]] w fun e w' => ∃ v0_ : Value, e = .returned (v0_) ∧ Kd.R (Kd.int .i64) 3 w' w.heap.size (fun _ => True) v0_ r ∧ Below w.heap.size w w' := by
 have hu24 := Tryd.underlying24
 have hu50 := Tryd.underlying50
 have HR0_2 := Aside0.mk hr0_2
 have HC0_2 := Aside0.mk hc0_2
 clear hr0_2 hc0_2
 have HB := Aside0.mk (Below.refl w.heap.size w)
 have H : (ident_path.l0 k (([a0_0] : List Int)) l0_2 (l0_2.length : Int) 0) = some r := h
 clear h
 obtain ⟨y103, hy103⟩ : ∃ y_ : List Int, y_ = (([a0_0] : List Int)) := ⟨_, rfl⟩
 replace H : (ident_path.l0 k y103 l0_2 (l0_2.length : Int) 0) = some r := by (rw [hy103]; with_reducible exact H)
 have Ny103 := Aside0.mk hy103
 clear hy103
 have H' := Aside0.mk H
 clear H
 go_enter Tryd.func40, Tryd.ntmps40
 go_wp2_with (first | ((with_reducible refine gate_dst (N := 1) rfl ?_); refine box_event ?hg (N := 1) ?hd (cs := #[.int .i64 a0_0, .int .i64 a0_1, .slice A0_2 l0_2.length c0_2]) (t := 24) ?hr ?_; (case hd => rfl); (case hg => rfl); (case hr => (go_simp; done)); intro gb102 hg w2 hbox hb; have BK102 := Aside0.mk (hbox); have GW102 := Aside0.mk ((by rw [hg]; exact (below_size (HB.out)) : w.heap.size ≤ gb102)); have GE102 := Aside0.mk ((by rw [hg]; exact (below_size (HB.out)) : w.heap.size ≤ gb102)); replace HB := Aside0.mk (below_step (HB.out) hb); clear hb hbox hg; obtain ⟨hcz3_0, hcz3_1, hcz3_2⟩ := bc3 BK102.out; obtain ⟨hfz3_0, hfz3_1, hfz3_2⟩ := bf3 BK102.out) | ((with_reducible refine gate_dst (N := 8) rfl ?_); refine Kd.R_lit (Kd.int .i64) _ 3 ?hg (N := 8) ?hd (xs := ([a0_0] : List Int)) (inner := [.int .i64 a0_0]) (ok := fun _ => True) (okp := fun _ => True) ?hr ?hp (fun _ hk => hk) trivial (Below.refl _ _) (Nat.le_refl _) (by simp) ?_; (case hd => rfl); (case hg => rfl); (case hr => (go_simp; done)); (case hp => exact (Reps.one (show Kd.M (Kd.int .i64) _ _ _ a0_0 [.int .i64 a0_0] from rfl) (Reps.none _ _))); intro v104 w4 ho5 hb hg_ hnew_; clear hg_ hnew_; (rw [← Ny103.out] at ho5); have HO105 := Aside0.mk (Kd.R_lower ho5 (below_size (HB.out))); replace BK102 := Aside0.mk (blk_below BK102.out hb); replace HB := Aside0.mk (below_step (HB.out) hb); clear hb ho5; obtain ⟨hcz6_0, hcz6_1, hcz6_2⟩ := bc3 BK102.out; obtain ⟨hfz6_0, hfz6_1, hfz6_2⟩ := bf3 BK102.out))
 go_loopg [3, 12] k (fun kq v3 v12 w' => ∃ (x3_1 : List Int) (x12_1 : Int), v12 = .int .i64 x12_1 ∧ Aside0 (ident_path.l0 kq x3_1 l0_2 (l0_2.length : Int) x12_1 = some r) ∧ Aside0 (kq ≤ k) ∧ Aside0 (Kd.R (Kd.int .i64) 3 w' w.heap.size (fun _ => True) v3 x3_1) ∧ Aside0 (w'.heap[gb102]? = some (.cells #[.int .i64 a0_0, .int .i64 a0_1, (.slice A0_2 l0_2.length c0_2)] 24 (0, 0))) ∧ Aside0 (Below w.heap.size w w'))
 case atStart => exact ⟨(y103), (0), (by rfl), H', ⟨Nat.le_refl _⟩, ⟨by exact HO105.out⟩, ⟨by exact BK102.out⟩, ⟨HB.out⟩⟩
 case round =>
  clear H'
  clear hcz3_0 hcz3_1 hcz3_2 hcz6_0 hcz6_1 hcz6_2 hfz3_0 hfz3_1 hfz3_2 hfz6_0 hfz6_1 hfz6_2
  obtain ⟨x3_1, x12_1, rfl, HA, HK1, HO_3, BK102, HB⟩ := hrel
  cases gk with
  | zero => exact absurd HA.out (by simp [ident_path.l0])
  | succ k1 =>
   have H := HA.out
   clear HA
   simp only [ident_path.l0] at H
   by_cases c7 : x12_1 < (l0_2.length : Int)
   ·rw [if_pos c7] at H
    have c7b0 : decide (x12_1 < (l0_2.length : Int)) = true := decide_eq_true c7
    clear c7
    by_cases c8 : 0 ≤ x12_1
    ·rw [if_pos c8] at H
     have c8b0 : decide (0 ≤ x12_1) = true := decide_eq_true c8
     clear c8
     by_cases c9 : x12_1 < (l0_2.length : Int)
     ·rw [if_pos c9] at H
      have c9b0 : decide (x12_1 < (l0_2.length : Int)) = true := decide_eq_true c9
      clear c9
      by_cases c10 : x3_1.length < 17592186044416
      ·rw [if_pos c10] at H
       have LMc10 := Aside0.mk c10
       clear c10
       obtain ⟨y108, hy108⟩ : ∃ y_ : List Int, y_ = (x3_1 ++ [(rd_T50 l0_2 x12_1).f1]) := ⟨_, rfl⟩
       replace H : (ident_path.l0 k1 y108 l0_2 (l0_2.length : Int) (wrap64 (x12_1 + 1))) = some r := by (rw [hy108]; with_reducible exact H)
       have Ny108 := Aside0.mk hy108
       clear hy108
       have H' := Aside0.mk H
       clear H
       have p106 : 0 ≤ (x12_1 : Int) := of_decide_eq_true (by (with_reducible assumption))
       have q106 : x12_1 < (l0_2.length : Int) := of_decide_eq_true (by (with_reducible assumption))
       obtain ⟨ad106, e106, hx106_0, hx106_1⟩ := at_T50 HR0_2.out x12_1 p106 q106
       cases e106
       try replace hx106_0 := (HB.out.cell (World.block_lt_of_cell? w _ hx106_0)).trans hx106_0
       try replace hx106_1 := (HB.out.cell (World.block_lt_of_cell? w _ hx106_1)).trans hx106_1
       replace p106 := eq_true p106
       replace q106 := eq_true q106
       go_wp2_with (first | ((with_reducible refine gate_dst (N := 5) rfl ?_); refine box_event ?hg (N := 5) ?hd (cs := #[.int .i64 0, .int .i64 0]) (t := 50) ?hr ?_; (case hd => rfl); (case hg => rfl); (case hr => (go_simp; done)); intro gb107 hg w11 hbox hb; replace HO_3 := Aside0.mk (Kd.R_below (by exact HO_3.out) hb); have BK107 := Aside0.mk (hbox); have GW107 := Aside0.mk ((by rw [hg]; exact (below_size (HB.out)) : w.heap.size ≤ gb107)); have GE107 := Aside0.mk ((by rw [hg]; exact (below_size (HB.out)) : w.heap.size ≤ gb107)); replace HB := Aside0.mk (below_step (HB.out) hb); have NB102_107 := Aside0.mk ((by rw [hg]; exact Nat.ne_of_lt (blk_lt BK102.out) : gb102 ≠ gb107)); have NB107_102 := Aside0.mk ((by rw [hg]; exact Nat.ne_of_gt (blk_lt BK102.out) : gb107 ≠ gb102)); replace BK102 := Aside0.mk (blk_below BK102.out hb); clear hb hbox hg; have hnb12 := NB107_102.out; have hnc12 := NB102_107.out; obtain ⟨hcz13_0, hcz13_1⟩ := bc2 BK107.out; obtain ⟨hfz13_0, hfz13_1⟩ := bf2 BK107.out) | ((with_reducible refine gate_builtin (b := .append) (xs := #[.tmp 16, .tmp 19]) rfl ?_); at_builtin; refine Kd.R_append (Kd.int .i64) (w0 := w) w.heap.size rfl (.tmp 16) (.tmp 19) 46 3 (.int .i64 0) 8 rfl Tryd.underlying46 info3 rfl (by decide) (by omega) u3 x3_1 ((rd_T50 l0_2 x12_1).f1) [.int .i64 ((rd_T50 l0_2 x12_1).f1)] (fun _ => True) (fun _ => False) rfl (by (go_simp; done)) ?aP (fun _ hk => hk.elim) ?aF ?aO ?aB ?aS ?aL ?_; (case aP => exact rfl); (case aB => exact (below_set (below_set HB.out GE107.out) GE107.out)); (case aF => exact (fun _ _ => trivial)); (case aO => exact (by exact Kd.R_mono (Kd.R_far (p := ⟨gb107, 1, none⟩) (Kd.R_far (p := ⟨gb107, 0, none⟩) (Kd.R_types HO_3.out BK107.out (by decide)) (fun _ hk => hk.2) (.int .i64 ((rd_T50 l0_2 x12_1).f0))) (fun _ hk => hk.2) (.int .i64 ((rd_T50 l0_2 x12_1).f1))) (fun _ hk => trivial))); (case aS => exact (below_size (below_set (below_set HB.out GE107.out) GE107.out))); (case aL => have := LMc10.out; omega); intro v109 w14 ho hb hg hat; rw [← Ny108.out] at ho; replace BK102 := Aside0.mk (blk_grown (g := gb102) (o := .cells #[.int .i64 a0_0, .int .i64 a0_1, .slice (some ad106) l0_2.length c0_2] 24 (0, 0)) (by refine blk_far ?_ NB102_107.out _; refine blk_far ?_ NB102_107.out _; exact BK102.out) hg (Kd.R_ne HO_3.out BK102.out (by decide))); replace BK107 := Aside0.mk (blk_grown (g := gb107) (o := .cells #[.int .i64 ((rd_T50 l0_2 x12_1).f0), .int .i64 ((rd_T50 l0_2 x12_1).f1)] 50 (0, 0)) (by refine blk_put (cs := #[.int .i64 ((rd_T50 l0_2 x12_1).f0), .int .i64 0]) ?_ 1 _ rfl; refine blk_put (cs := #[.int .i64 0, .int .i64 0]) ?_ 0 _ rfl; exact BK107.out) hg (Kd.R_ne HO_3.out BK107.out (by decide))); replace HB := Aside0.mk (hb); have HO110 := Aside0.mk (ho); clear HO_3; clear ho hb hg hat))
       go_roundg k1
       case measure => have := HK1.out; omega
       case rel => exact ⟨(y108), (wrap64 (x12_1 + 1)), (by rfl), H', ⟨by have := HK1.out; omega⟩, ⟨by exact HO110.out⟩, ⟨by exact BK102.out⟩, ⟨HB.out⟩⟩
      ·rw [if_neg c10] at H
       exact absurd H (by simp)
     ·rw [if_neg c9] at H
      exact absurd H (by simp)
    ·rw [if_neg c8] at H
     exact absurd H (by simp)
   ·rw [if_neg c7] at H
    have c7b0 : decide (x12_1 < (l0_2.length : Int)) = false := decide_eq_false c7
    clear c7
    obtain rfl := Option.some.inj H
    go_wp2
    go_ret
    exact ⟨_, by rfl, by exact HO_3.out, HB.out⟩

/-! ### ident_Check: function 39 -/
def ident_Check.badStep (x : S50) : Bool := decide (x.f0 < 0) || decide (x.f0 ≥ 8)
set_option maxHeartbeats 4000000 in
set_option maxRecDepth 100000 in
theorem ident_Check.step_calls (x : S50) (w : World) : Calls Tryd.prog 51 #[.agg #[.int .i64 x.f0, .int .i64 x.f1]] w fun e w' => e = .returned (.bool (ident_Check.badStep x)) ∧ Below w.heap.size w w' := by
 obtain ⟨a, b⟩ := x
 unfold ident_Check.badStep
 have hu55 := Tryd.underlying50
 have HB := Aside0.mk (Below.refl w.heap.size w)
 go_enter Tryd.func51, Tryd.ntmps51
 go_wp2_with (first | ((with_reducible refine gate_dst (N := 1) rfl ?_); refine box_event ?hg (N := 1) ?hd (cs := #[.int .i64 a, .int .i64 b]) (t := 50) ?hr ?_; (case hd => rfl); (case hg => rfl); (case hr => (go_simp; done)); intro gb1 hg wb1 hbox hb; have n0_ := Aside0.mk (below_step (HB.out) hb); have n3_ := Aside0.mk ((by rw [hg]; exact (below_size (HB.out)) : w.heap.size ≤ gb1)); have BK1 := Aside0.mk hbox; clear HB; have HB := n0_; have GE1 := n3_; clear n0_ n3_; clear hb hbox hg; obtain ⟨hc1_0, hf1_0, hc1_1, hf1_1⟩ := be2 BK1.out))
 ·go_ret
  exact ⟨rfl, (HB.out)⟩
 ·go_ret
  rename_i h
  exact ⟨by simp [h], (HB.out)⟩
def ident_Check.idxB : List S50 → Nat → Int
 | [], _ => -1
 | x :: l, i => if ident_Check.badStep x = true then (i : Int) else ident_Check.idxB l (i + 1)
set_option maxHeartbeats 4000000 in
set_option maxRecDepth 100000 in
theorem ident_Check.idx_calls (A : Option Addr) (c : Nat) (l : List S50) (w : World) (hr : Kd.C k50 w A l.length l) (hc : l.length ≤ c) : Calls Tryd.prog 58 #[.slice A l.length c, .func (.func 51) #[] #[]] w fun e w' => e = .returned (.int .i64 (ident_Check.idxB l 0)) ∧ Below w.heap.size w w' := by
 have hu55 := Tryd.underlying50
 have hl : l.length ≤ 9223372036854775807 := hr.2.1
 have HR := Aside0.mk hr
 have HC := Aside0.mk hc
 clear hr hc
 have HS := Aside0.mk (fun x W => ident_Check.step_calls x W)
 go_enter Tryd.func58, Tryd.ntmps58
 go_wp2
 go_loopg [8] l.length (fun kq v8 w' => ∃ (i : Nat), v8 = .int .i64 (i : Int) ∧ Aside0 (kq = l.length - i) ∧ Aside0 (i ≤ l.length) ∧ Aside0 (ident_Check.idxB (l.drop i) i = ident_Check.idxB l 0) ∧ Aside0 (Below w.heap.size w w'))
 case atStart => exact ⟨0, rfl, ⟨rfl⟩, ⟨Nat.zero_le _⟩, ⟨rfl⟩, ⟨Below.refl _ _⟩⟩
 case round =>
  obtain ⟨i, rfl, HK, HI, HA, HB⟩ := hrel
  by_cases hlt : i < l.length
  ·have d1 : decide ((i : Int) < (l.length : Int)) = true := decide_eq_true (by omega)
   have d2 : (0 ≤ (i : Int)) = True := eq_true (by omega)
   have d3 : ((i : Int) < (l.length : Int)) = True := eq_true (by omega)
   obtain ⟨ad, e, hx0, hx1⟩ := at_T50 HR.out (i : Int) (by omega) (by omega)
   cases e
   try replace hx0 := (HB.out.cell (World.block_lt_of_cell? w _ hx0)).trans hx0
   try replace hx1 := (HB.out.cell (World.block_lt_of_cell? w _ hx1)).trans hx1
   rw [Int.toNat_natCast] at hx0 hx1
   have hi1 : IntKind.i64.wrap ((i : Int) + 1) = ((i + 1 : Nat) : Int) := by rw [i64_w, IntWalk.wrap64_in _ (by omega)]; omega
   have hi2 : wrap64 ((i : Int) + 1) = ((i + 1 : Nat) : Int) := by rw [IntWalk.wrap64_in _ (by omega)]; omega
   have hA := HA.out
   rw [List.drop_eq_getElem_cons hlt] at hA
   have hg : rd_T50 l (i : Int) = l[i] := by unfold rd_T50; rw [Int.toNat_natCast, List.getD_eq_getElem?_getD, List.getElem?_eq_getElem hlt]; rfl
   rw [← hg, show ident_Check.idxB (rd_T50 l (i : Int) :: l.drop (i + 1)) i = if ident_Check.badStep (rd_T50 l (i : Int)) = true then (i : Int) else ident_Check.idxB (l.drop (i + 1)) (i + 1) from rfl] at hA
   obtain ⟨R, hR⟩ : ∃ R, R = ident_Check.idxB l 0 := ⟨_, rfl⟩
   rw [← hR] at hA
   have HX := Aside0.mk hR
   clear hR
   have HLT := Aside0.mk hlt
   clear hg HA hlt
   go_wp2_with (first | (go_at_call 51; refine (HS.out (rd_T50 l (i : Int)) _).mono ?_; rintro e wc1 ⟨rfl, hb⟩; replace HB := Aside0.mk (below_step (HB.out) hb); clear hb))
   ·rename_i hb
    go_ret
    rw [if_pos hb] at hA
    exact ⟨by rw [← HX.out, ← hA]; rfl, (HB.out)⟩
   ·rename_i hb
    have hlt := HLT.out
    rw [if_neg (by simpa using hb)] at hA
    obtain ⟨k, hk⟩ : ∃ k, l.length - i = k + 1 := ⟨l.length - i - 1, by omega⟩
    go_roundg k
    case measure => have := HK.out; omega
    case rel => exact ⟨i + 1, by rw [show ((i + 1 : Nat) : Int) = (i : Int) + 1 by omega], ⟨by omega⟩, ⟨by omega⟩, ⟨by rw [hA, HX.out]⟩, HB⟩
  ·have d1 : decide ((i : Int) < (l.length : Int)) = false := decide_eq_false (by omega)
   have hA := HA.out
   rw [List.drop_of_length_le (by omega)] at hA
   go_wp2
   go_ret
   exact ⟨by rw [← hA]; rfl, (HB.out)⟩
theorem ident_Check.idxB_any : ∀ (l : List S50) (i : Nat), decide (ident_Check.idxB l i ≥ 0) = l.any ident_Check.badStep
 | [], i => rfl
 | x :: l, i => by
  unfold ident_Check.idxB
  rw [List.any_cons]
  cases h : ident_Check.badStep x with
  | true => rw [if_pos rfl, decide_eq_true (by omega)]; rfl
  | false => rw [if_neg (by decide), ident_Check.idxB_any l (i + 1)]; rfl
set_option maxHeartbeats 4000000 in
set_option maxRecDepth 100000 in
theorem ident_Check.has_calls (A : Option Addr) (c : Nat) (l : List S50) (w : World) (hr : Kd.C k50 w A l.length l) (hc : l.length ≤ c) : Calls Tryd.prog 50 #[.slice A l.length c, .func (.func 51) #[] #[]] w fun e w' => e = .returned (.bool (l.any ident_Check.badStep)) ∧ Below w.heap.size w w' := by
 rw [← ident_Check.idxB_any l 0]
 have HI := Aside0.mk (ident_Check.idx_calls A c l w hr hc)
 have HB := Aside0.mk (Below.refl w.heap.size w)
 clear hr hc
 go_enter Tryd.func50, Tryd.ntmps50
 go_wp2_with (first | (go_at_call 58; refine (HI.out).mono ?_; rintro e wc1 ⟨rfl, hb⟩; replace HB := Aside0.mk (below_step (HB.out) hb); clear hb))
 go_ret
 exact ⟨rfl, (HB.out)⟩
def ident_Check.pathOk : List Int → List Int → Bool
 | _, [] => true
 | t, o :: l => decide (0 ≤ o) && (decide (o < 16) && (!decide (o ∈ t) && ident_Check.pathOk (t ++ [o]) l))
def ident_Check.metA (t : List Int) : List Value := (List.range 16).map fun (j : Nat) => Value.bool (decide ((j : Int) ∈ t))
theorem ident_Check.metA_len (t : List Int) : (ident_Check.metA t).length = 16 := by simp [ident_Check.metA]
theorem ident_Check.metA_get (t : List Int) (o : Int) (h0 : 0 ≤ o) (h1 : o < 16) : (ident_Check.metA t)[o.toNat]? = some (.bool (decide (o ∈ t))) := by
 unfold ident_Check.metA
 rw [List.getElem?_map, List.getElem?_range (by omega)]
 simp only [Option.map_some]
 rw [Int.toNat_of_nonneg h0]
theorem ident_Check.metA_set (t : List Int) (o : Int) (h0 : 0 ≤ o) (h1 : o < 16) : (ident_Check.metA t).set o.toNat (.bool true) = ident_Check.metA (t ++ [o]) := by
 unfold ident_Check.metA
 apply List.ext_getElem?
 intro j
 by_cases hj : j < 16
 ·by_cases e : o.toNat = j
  ·subst e
   rw [List.getElem?_set_self (by simp; omega), List.getElem?_map, List.getElem?_range (by omega)]
   simp [Int.toNat_of_nonneg h0]
  ·rw [List.getElem?_set_ne e, List.getElem?_map, List.getElem?_map, List.getElem?_range hj]
   simp only [Option.map_some, List.mem_append, List.mem_singleton]
   congr 3
   have : (j : Int) ≠ o := by omega
   simp [this]
 ·rw [List.getElem?_eq_none (by simp; omega), List.getElem?_eq_none (by simp; omega)]
theorem ident_Check.path_loop : ∀ (d : Nat) (out : List Int) (y : List S50) (i : Nat), y.length ≤ 100000 → out.length ≤ 200000 → y.length - i = d → i ≤ y.length → out.length = i + 1 → ident_path.l0 (d + 1) out y (y.length : Int) (i : Int) = some (out ++ (y.drop i).map (·.f1))
 | 0, out, y, i, hy, ho, hd, hi, hoi => by
  rw [ident_path.l0, if_neg (by omega), List.drop_of_length_le (by omega)]
  simp
 | d + 1, out, y, i, hy, ho, hd, hi, hoi => by
  have hg : rd_T50 y (i : Int) = y[i]'(by omega) := by unfold rd_T50; rw [Int.toNat_natCast, List.getD_eq_getElem?_getD, List.getElem?_eq_getElem (by omega)]; rfl
  have hw : wrap64 ((i : Int) + 1) = ((i + 1 : Nat) : Int) := by rw [IntWalk.wrap64_in _ (by omega)]; omega
  rw [ident_path.l0, if_pos (by omega), if_pos (by omega), if_pos (by omega), if_pos (by omega), hw, hg, ident_Check.path_loop d _ y (i + 1) hy (by rw [List.length_append]; simp only [List.length_cons, List.length_nil]; omega) (by omega) (by omega) (by rw [List.length_append]; simp only [List.length_cons, List.length_nil]; omega), List.drop_eq_getElem_cons (by omega : i < y.length), List.map_cons, List.append_assoc]
  rfl
theorem ident_Check.path_eq (a b : Int) (l : List S50) (h : l.length ≤ 100000) : ident_path.f (l.length + 1) a b l = some (a :: l.map (·.f1)) := by
 unfold ident_path.f
 exact ident_Check.path_loop l.length [a] l 0 h (by simp) rfl (Nat.zero_le _) rfl
def ident_Check.f (a b : Int) (l : List S50) : Option Int := some (if b < 1 then 30 else if b > 999999 then 30 else if l.length > 4 then 30 else if ident_Check.pathOk [] (a :: l.map (·.f1)) = true then (if l.any ident_Check.badStep = true then 30 else 0) else 30)
set_option maxHeartbeats 8000000 in
set_option maxRecDepth 100000 in
theorem ident_Check.calls (a0_0 a0_1 : Int) (A0_2 : Option Addr) (c0_2 : Nat) (l0_2 : List S50) (r : Int) (w : World) (hr0_2 : Kd.C k50 w A0_2 l0_2.length l0_2) (hc0_2 : l0_2.length ≤ c0_2) (h : ident_Check.f a0_0 a0_1 l0_2 = some r) :
  Calls Tryd.prog 39 #[.agg #[.int .i64 a0_0, .int .i64 a0_1, .slice A0_2 l0_2.length c0_2]] w fun e w' => e = .returned (.int .i64 r) ∧ Below w.heap.size w w' := by
 have hu24 := Tryd.underlying24
 have hu55 := Tryd.underlying50
 have HR := Aside0.mk hr0_2
 have HC := Aside0.mk hc0_2
 clear hr0_2 hc0_2
 have HB := Aside0.mk (Below.refl w.heap.size w)
 unfold ident_Check.f at h
 by_cases c1 : a0_1 < 1
 ·rw [if_pos c1] at h
  obtain rfl := Option.some.inj h
  have c1b := decide_eq_true c1
  go_enter Tryd.func39, Tryd.ntmps39
  go_wp2_with (first | ((with_reducible refine gate_dst (N := 1) rfl ?_); refine box_event ?hg (N := 1) ?hd (cs := #[.int .i64 a0_0, .int .i64 a0_1, .slice A0_2 l0_2.length c0_2]) (t := 24) ?hr ?_; (case hd => rfl); (case hg => rfl); (case hr => (go_simp; done)); intro gb1 hg wb1 hbox hb; have n0_ := Aside0.mk (below_step (HB.out) hb); have n3_ := Aside0.mk ((by rw [hg]; exact (below_size (HB.out)) : w.heap.size ≤ gb1)); have BK1 := Aside0.mk hbox; clear HB; have HB := n0_; have GE1 := n3_; clear n0_ n3_; clear hb hbox hg; obtain ⟨hc1_0, hf1_0, hc1_1, hf1_1, hc1_2, hf1_2⟩ := be3 BK1.out))
  go_ret
  exact ⟨rfl, (HB.out)⟩
 rw [if_neg c1] at h
 by_cases c2 : a0_1 > 999999
 ·rw [if_pos c2] at h
  obtain rfl := Option.some.inj h
  have c1b := decide_eq_false c1
  have c2b : decide (999999 < a0_1) = true := decide_eq_true c2
  go_enter Tryd.func39, Tryd.ntmps39
  go_wp2_with (first | ((with_reducible refine gate_dst (N := 1) rfl ?_); refine box_event ?hg (N := 1) ?hd (cs := #[.int .i64 a0_0, .int .i64 a0_1, .slice A0_2 l0_2.length c0_2]) (t := 24) ?hr ?_; (case hd => rfl); (case hg => rfl); (case hr => (go_simp; done)); intro gb1 hg wb1 hbox hb; have n0_ := Aside0.mk (below_step (HB.out) hb); have n3_ := Aside0.mk ((by rw [hg]; exact (below_size (HB.out)) : w.heap.size ≤ gb1)); have BK1 := Aside0.mk hbox; clear HB; have HB := n0_; have GE1 := n3_; clear n0_ n3_; clear hb hbox hg; obtain ⟨hc1_0, hf1_0, hc1_1, hf1_1, hc1_2, hf1_2⟩ := be3 BK1.out))
  go_ret
  exact ⟨rfl, (HB.out)⟩
 rw [if_neg c2] at h
 by_cases c3 : l0_2.length > 4
 ·rw [if_pos c3] at h
  obtain rfl := Option.some.inj h
  have c1b := decide_eq_false c1
  have c2b : decide (999999 < a0_1) = false := decide_eq_false c2
  have c3b : decide (4 < (l0_2.length : Int)) = true := decide_eq_true (by omega)
  go_enter Tryd.func39, Tryd.ntmps39
  go_wp2_with (first | ((with_reducible refine gate_dst (N := 1) rfl ?_); refine box_event ?hg (N := 1) ?hd (cs := #[.int .i64 a0_0, .int .i64 a0_1, .slice A0_2 l0_2.length c0_2]) (t := 24) ?hr ?_; (case hd => rfl); (case hg => rfl); (case hr => (go_simp; done)); intro gb1 hg wb1 hbox hb; have n0_ := Aside0.mk (below_step (HB.out) hb); have n3_ := Aside0.mk ((by rw [hg]; exact (below_size (HB.out)) : w.heap.size ≤ gb1)); have BK1 := Aside0.mk hbox; clear HB; have HB := n0_; have GE1 := n3_; clear n0_ n3_; clear hb hbox hg; obtain ⟨hc1_0, hf1_0, hc1_1, hf1_1, hc1_2, hf1_2⟩ := be3 BK1.out))
  go_ret
  exact ⟨rfl, (HB.out)⟩
 rw [if_neg c3] at h
 have c1b := decide_eq_false c1
 have c2b : decide (999999 < a0_1) = false := decide_eq_false c2
 have c3b : decide (4 < (l0_2.length : Int)) = false := decide_eq_false (by omega)
 have HP := Aside0.mk (ident_Check.path_eq a0_0 a0_1 l0_2 (by omega))
 obtain ⟨r0, hr0⟩ : ∃ r0, r0 = a0_0 :: l0_2.map (·.f1) := ⟨_, rfl⟩
 rw [← hr0] at h HP
 have HLEN := Aside0.mk (show r0.length = l0_2.length + 1 by rw [hr0]; simp)
 clear hr0
 go_enter Tryd.func39, Tryd.ntmps39
 go_wp2_with (first | ((with_reducible refine gate_dst (N := 1) rfl ?_); refine box_event ?hg (N := 1) ?hd (cs := #[.int .i64 a0_0, .int .i64 a0_1, .slice A0_2 l0_2.length c0_2]) (t := 24) ?hr ?_; (case hd => rfl); (case hg => rfl); (case hr => (go_simp; done)); intro gb1 hg wb1 hbox hb; have n0_ := Aside0.mk (below_step (HB.out) hb); have n3_ := Aside0.mk ((by rw [hg]; exact (below_size (HB.out)) : w.heap.size ≤ gb1)); have BK1 := Aside0.mk hbox; clear HB; have HB := n0_; have GE1 := n3_; clear n0_ n3_; clear hb hbox hg; obtain ⟨hc1_0, hf1_0, hc1_1, hf1_1, hc1_2, hf1_2⟩ := be3 BK1.out) | ((with_reducible refine gate_dst (N := 3) rfl ?_); refine box_event ?hg (N := 3) ?hd (cs := #[.bool false, .bool false, .bool false, .bool false, .bool false, .bool false, .bool false, .bool false, .bool false, .bool false, .bool false, .bool false, .bool false, .bool false, .bool false, .bool false]) (t := 86) ?hr ?_; (case hd => rfl); (case hg => rfl); (case hr => (go_simp; done)); intro gb3 hg wb3 hbox hb; have n0_ := Aside0.mk (below_step (HB.out) hb); have n3_ := Aside0.mk ((by rw [hg]; exact (below_size (HB.out)) : w.heap.size ≤ gb3)); have NE1_3 : gb1 ≠ gb3 := (by rw [hg]; exact Nat.ne_of_lt (blk_lt BK1.out)); have NE3_1 := Ne.symm NE1_3; have m1_ := Aside0.mk (blk_below BK1.out hb); have BK3 := Aside0.mk hbox; clear HB; have HB := n0_; have GE3 := n3_; clear n0_ n3_; clear hb hbox hg; clear BK1 hc1_0 hf1_0 hc1_1 hf1_1 hc1_2 hf1_2; have BK1 := m1_; clear m1_; obtain ⟨hc1_0, hf1_0, hc1_1, hf1_1, hc1_2, hf1_2⟩ := be3 BK1.out; obtain ⟨hc3_0, hf3_0, hc3_1, hf3_1, hc3_2, hf3_2, hc3_3, hf3_3, hc3_4, hf3_4, hc3_5, hf3_5, hc3_6, hf3_6, hc3_7, hf3_7, hc3_8, hf3_8, hc3_9, hf3_9, hc3_10, hf3_10, hc3_11, hf3_11, hc3_12, hf3_12, hc3_13, hf3_13, hc3_14, hf3_14, hc3_15, hf3_15⟩ := be16 BK3.out) | (go_at_call 40; refine (ident_path.calls (l0_2.length + 1) a0_0 a0_1 A0_2 c0_2 l0_2 r0 _ (Kd.C_below HR.out (HB.out)) HC.out HP.out).mono ?_; rintro e wc4 ⟨v4, rfl, hO4, hb⟩; have n0_ := Aside0.mk (below_step (HB.out) hb); have m1_ := Aside0.mk (blk_below BK1.out hb); have m3_ := Aside0.mk (blk_below BK3.out hb); obtain ⟨A4, c4, rfl, hl4, _⟩ := Kd.R_reads hO4; have HO4 := Aside0.mk hO4; have HL4 := Aside0.mk hl4; clear hO4 hl4; clear HB; have HB := n0_; clear n0_ hb; clear BK1 hc1_0 hf1_0 hc1_1 hf1_1 hc1_2 hf1_2; have BK1 := m1_; clear m1_; obtain ⟨hc1_0, hf1_0, hc1_1, hf1_1, hc1_2, hf1_2⟩ := be3 BK1.out; clear BK3 hc3_0 hf3_0 hc3_1 hf3_1 hc3_2 hf3_2 hc3_3 hf3_3 hc3_4 hf3_4 hc3_5 hf3_5 hc3_6 hf3_6 hc3_7 hf3_7 hc3_8 hf3_8 hc3_9 hf3_9 hc3_10 hf3_10 hc3_11 hf3_11 hc3_12 hf3_12 hc3_13 hf3_13 hc3_14 hf3_14 hc3_15 hf3_15; have BK3 := m3_; clear m3_; obtain ⟨hc3_0, hf3_0, hc3_1, hf3_1, hc3_2, hf3_2, hc3_3, hf3_3, hc3_4, hf3_4, hc3_5, hf3_5, hc3_6, hf3_6, hc3_7, hf3_7, hc3_8, hf3_8, hc3_9, hf3_9, hc3_10, hf3_10, hc3_11, hf3_11, hc3_12, hf3_12, hc3_13, hf3_13, hc3_14, hf3_14, hc3_15, hf3_15⟩ := be16 BK3.out))
 clear hc3_0 hf3_0 hc3_1 hf3_1 hc3_2 hf3_2 hc3_3 hf3_3 hc3_4 hf3_4 hc3_5 hf3_5 hc3_6 hf3_6 hc3_7 hf3_7 hc3_8 hf3_8 hc3_9 hf3_9 hc3_10 hf3_10 hc3_11 hf3_11 hc3_12 hf3_12 hc3_13 hf3_13 hc3_14 hf3_14 hc3_15 hf3_15
 go_loopg [23] r0.length (fun kq v23 w' => ∃ (i : Nat), v23 = .int .i64 (i : Int) ∧ Aside0 (kq = r0.length - i) ∧ Aside0 (i ≤ r0.length) ∧ Aside0 (ident_Check.pathOk (r0.take i) (r0.drop i) = ident_Check.pathOk [] r0) ∧ Aside0 (Kd.R (Kd.int .i64) 3 w' wb3.heap.size (fun _ => True) (.slice A4 r0.length c4) r0) ∧ Aside0 (w'.heap[gb1]? = some (.cells #[.int .i64 a0_0, .int .i64 a0_1, .slice A0_2 l0_2.length c0_2] 24 (0, 0))) ∧ Aside0 (w'.heap[gb3]? = some (.cells (ident_Check.metA (r0.take i)).toArray 86 (0, 0))) ∧ Aside0 (Below w.heap.size w w'))
 case atStart => exact ⟨0, rfl, ⟨rfl⟩, ⟨Nat.zero_le _⟩, ⟨rfl⟩, ⟨HO4.out⟩, ⟨BK1.out⟩, ⟨BK3.out⟩, ⟨HB.out⟩⟩
 case round =>
  clear HO4 BK1 BK3 HB hc1_0 hc1_1 hc1_2 hf1_0 hf1_1 hf1_2
  obtain ⟨i, rfl, HK, HI, HA, HO4, BK1, BK3, HB⟩ := hrel
  by_cases hlt : i < r0.length
  ·have d1 : decide ((i : Int) < (r0.length : Int)) = true := decide_eq_true (by omega)
   have d2 : (0 ≤ (i : Int)) = True := eq_true (by omega)
   have d3 : ((i : Int) < (r0.length : Int)) = True := eq_true (by omega)
   obtain ⟨ad, e, hx⟩ := Kd.at_int (Kd.R_reads' HO4.out).2.2 (i : Int) (by omega) (by omega)
   rw [Int.toNat_natCast] at hx
   subst e
   have hi2 : wrap64 ((i : Int) + 1) = ((i + 1 : Nat) : Int) := by have := HLEN.out; rw [IntWalk.wrap64_in _ (by omega)]; omega
   have hA := HA.out
   rw [List.drop_eq_getElem_cons hlt] at hA
   have hg : rd r0 (i : Int) = r0[i] := by unfold rd; rw [Int.toNat_natCast, List.getD_eq_getElem?_getD, List.getElem?_eq_getElem hlt]; rfl
   have ht : r0.take (i + 1) = r0.take i ++ [rd r0 (i : Int)] := by rw [List.take_succ_eq_append_getElem hlt, hg]
   rw [← hg] at hA
   generalize rd r0 (i : Int) = o at hA hx ht
   clear hg
   by_cases e1 : o < 0
   ·have e1b := decide_eq_true e1
    have hp : ident_Check.pathOk [] r0 = false := by rw [← hA]; simp [ident_Check.pathOk, show ¬ 0 ≤ o by omega]
    rw [hp, if_neg (by decide)] at h
    obtain rfl := Option.some.inj h
    clear HA hlt hp hA
    go_wp2
    go_ret
    exact ⟨rfl, (HB.out)⟩
   by_cases e2 : o ≥ 16
   ·have e1b := decide_eq_false e1
    have e2b : decide (16 ≤ o) = true := decide_eq_true e2
    have hp : ident_Check.pathOk [] r0 = false := by rw [← hA]; simp [ident_Check.pathOk, show ¬ o < 16 by omega]
    rw [hp, if_neg (by decide)] at h
    obtain rfl := Option.some.inj h
    clear HA hlt hp hA
    go_wp2
    go_ret
    exact ⟨rfl, (HB.out)⟩
   ·have e1b := decide_eq_false e1
    have e2b : decide (16 ≤ o) = false := decide_eq_false e2
    have e3 : (0 ≤ o) = True := eq_true (by omega)
    have e4 : (o < 16) = True := eq_true (by omega)
    have hm : wr.cell? ⟨gb3, o.toNat, none⟩ = some (.bool (decide (o ∈ r0.take i))) := (blk_cell BK3.out _).trans (by simpa using ident_Check.metA_get (r0.take i) o (by omega) (by omega))
    have hmf := blk_frozen BK3.out o.toNat
    have hset := ident_Check.metA_set (r0.take i) o (by omega) (by omega)
    by_cases e5 : o ∈ r0.take i
    ·rw [decide_eq_true e5] at hm
     have hp : ident_Check.pathOk [] r0 = false := by rw [← hA]; simp [ident_Check.pathOk, e5]
     rw [hp, if_neg (by decide)] at h
     obtain rfl := Option.some.inj h
     clear HA hlt hp hA
     go_wp2
     go_ret
     exact ⟨rfl, (HB.out)⟩
    ·rw [decide_eq_false e5] at hm
     have hA2 : ident_Check.pathOk (r0.take (i + 1)) (r0.drop (i + 1)) = ident_Check.pathOk [] r0 := by
      rw [← hA, ht]
      simp [ident_Check.pathOk, e5, show 0 ≤ o by omega, show o < 16 by omega]
     have HLT := Aside0.mk hlt
     clear HA hlt hA
     go_wp2
     obtain ⟨k, hk⟩ : ∃ k, r0.length - i = k + 1 := ⟨r0.length - i - 1, by have := HLT.out; omega⟩
     go_roundg k
     case measure => have := HK.out; omega
     case rel => exact ⟨i + 1, by rw [show ((i + 1 : Nat) : Int) = (i : Int) + 1 by omega], ⟨by omega⟩, ⟨by have := HLT.out; omega⟩, ⟨hA2⟩, ⟨Kd.R_set HO4.out BK3.out (by decide) _ _⟩, ⟨blk_far BK1.out NE1_3 _⟩, ⟨by rw [ht, ← hset]; exact blk_put BK3.out _ _ (by simp)⟩, ⟨below_set HB.out GE3.out⟩⟩
  ·have d1 : decide ((i : Int) < (r0.length : Int)) = false := decide_eq_false (by omega)
   have hA := HA.out
   rw [List.drop_of_length_le (by omega)] at hA
   have hp : ident_Check.pathOk [] r0 = true := by rw [← hA]; simp [ident_Check.pathOk]
   rw [hp, if_pos rfl] at h
   have hc1_2 : wr.cell? ⟨gb1, 2, none⟩ = some (.slice A0_2 l0_2.length c0_2) := (blk_cell BK1.out 2).trans rfl
   have d3 : ((i : Int) < (r0.length : Int)) = False := eq_false (by omega)
   by_cases hany : l0_2.any ident_Check.badStep = true
   ·rw [if_pos hany] at h
    obtain rfl := Option.some.inj h
    clear hA HA hp
    go_wp2_with (first | (go_at_call 50; refine (ident_Check.has_calls A0_2 c0_2 l0_2 _ (Kd.C_below HR.out (HB.out)) HC.out).mono ?_; rw [hany]; rintro e w7 ⟨rfl, hb⟩; replace HB := Aside0.mk (below_step (HB.out) hb); clear hb))
    go_ret
    exact ⟨rfl, (HB.out)⟩
   ·rw [if_neg hany] at h
    rw [Bool.not_eq_true] at hany
    obtain rfl := Option.some.inj h
    clear hA HA hp
    go_wp2_with (first | (go_at_call 50; refine (ident_Check.has_calls A0_2 c0_2 l0_2 _ (Kd.C_below HR.out (HB.out)) HC.out).mono ?_; rw [hany]; rintro e w7 ⟨rfl, hb⟩; replace HB := Aside0.mk (below_step (HB.out) hb); clear hb))
    go_ret
    exact ⟨rfl, (HB.out)⟩

/-! ### api_Hop: function 41 -/
def api_Hop.f (l : List S50) : Option (List S50) := if l.length < 8796093022208 then some l else none
set_option maxHeartbeats 4000000 in
set_option maxRecDepth 100000 in
theorem api_Hop.calls (A0 : Option Addr) (c0 : Nat) (l0 : List S50) (r : List S50) (w : World) (hr0 : Kd.C k50 w A0 l0.length l0) (hc0 : l0.length ≤ c0) (h : api_Hop.f l0 = some r) :
  Calls Tryd.prog 41 #[.slice A0 l0.length c0] w fun e w' => ∃ v0_ : Value, e = .returned (v0_) ∧ Kd.R k50 50 w' w.heap.size (fun _ => True) v0_ r ∧ Below w.heap.size w w' := by
 unfold api_Hop.f at h
 by_cases hl : l0.length < 8796093022208
 ·rw [if_pos hl] at h
  obtain rfl := Option.some.inj h
  have HR := Aside0.mk hr0
  have HL := Aside0.mk hl
  have HB := Aside0.mk (Below.refl w.heap.size w)
  clear h hr0 hl
  have hq : ∀ (A : Option Addr) (n c : Nat) (W : World), (binOp .eql 22 (.slice A n c) (.slice none 0 0)).run Tryd.prog W = .ok (.bool A.isNone) W := fun A n c W => Lib.run_eql_slice_nil W 22 50 A n c 0 0 Tryd.underlying22
  cases A0 with
  | none =>
   have hz : l0 = [] := by
    by_cases e : 0 < l0.length
    ·obtain ⟨ad, e2, _⟩ := HR.out.2.2 e
     cases e2
    ·exact List.eq_nil_of_length_eq_zero (by omega)
   subst hz
   clear HL HR
   go_enter Tryd.func41, Tryd.ntmps41
   go_wp2
   go_ret
   exact ⟨_, rfl, Kd.R_nil _ _ _ _ _, (HB.out)⟩
  | some ad =>
   go_enter Tryd.func41, Tryd.ntmps41
   go_wp2_with (first | ((with_reducible refine gate_dst (N := 5) rfl ?_); refine Kd.R_lit k50 _ 50 ?hg (N := 5) ?hd (xs := ([] : List (S50))) (inner := []) (ok := fun _ => True) (okp := fun _ => True) ?hr ?hp (fun _ hk => hk) trivial (Below.refl _ _) (Nat.le_refl _) (by simp) ?_; (case hd => rfl); (case hg => rfl); (case hr => (go_simp; done)); (case hp => exact (Reps.none _ _)); intro v1 w1 ho hb hg_ hnew_; clear hg_ hnew_; have HO := Aside0.mk (Kd.R_lower ho (below_size (HB.out))); have n2_ := Aside0.mk (below_step (HB.out) hb); clear HB; have HB := n2_; clear n2_ hb ho) | ((with_reducible refine gate_builtin (b := .append) (xs := #[.tmp 5, .tmp 6]) rfl ?_); at_builtin; refine Kd.R_append_rows k50 (w0 := w) w.heap.size rfl (.tmp 5) (.tmp 6) 22 50 (.agg #[(.int .i64 0), (.int .i64 0)]) 16 rfl Tryd.underlying22 info50 rfl (by decide) (by omega) v1 [] l0 _ _ _ (fun _ => True) (fun _ => False) rfl rfl ?aO ?aR (fun _ _ h => h) (fun _ h => h.elim) ?aF ?aB ?aS ?aL ?_; (case aR => exact (Kd.C_below HR.out (HB.out))); (case aB => exact (HB.out)); (case aF => exact (fun _ _ => trivial)); (case aO => exact (by exact HO.out)); (case aS => exact (below_size (HB.out))); (case aL => have := HL.out; simp only [List.length_nil]; omega); intro v2 w2 ho hb hg hat; have HO2 := Aside0.mk ho; have HB2 := Aside0.mk hb; clear hb ho hg hat))
   go_ret
   exact ⟨v2, rfl, by simpa using HO2.out, HB2.out⟩
 ·rw [if_neg hl] at h; cases h

/-! ### ident_Parent: function 20 -/
def ident_Parent.f (a0_0 : Int) (a0_1 : Int) (l0_2 : List (S50)) : Option (Int × Int × (List (S50)) × Int × Bool) := (ident_Check.f a0_0 a0_1 l0_2).bind fun t113 => (if t113 = 0 then (if (wrap64 ((l0_2.length : Int) - 1)) < 0 then (some (0, 0, ([] : List (S50)), 0, false)) else (if 0 ≤ (wrap64 ((l0_2.length : Int) - 1)) then (if (wrap64 ((l0_2.length : Int) - 1)) ≤ (l0_2.length : Int) then ((api_Hop.f (l0_2.take ((wrap64 ((l0_2.length : Int) - 1)) : Int).toNat)).bind fun t118 => (if (wrap64 ((l0_2.length : Int) - 1)) < (l0_2.length : Int) then (some (a0_0, a0_1, t118, (rd_T50 l0_2 (wrap64 ((l0_2.length : Int) - 1))).f0, true)) else (none))) else (none)) else (none))) else (some (0, 0, ([] : List (S50)), 0, false)))
def ident_Parent.T4 : Bool × List (List Nat × List Nat) := (true, [([], []), ([0], [0]), ([], []), ([2], [2]), ([], []), ([4], [4]), ([], []), ([5, 6], [5, 6]), ([7], [7]), ([1, 3, 8], [1, 3, 8]), ([], []), ([10], [10]), ([], []), ([11, 12], [11, 12]), ([13], [13]), ([14], [14]), ([9, 8, 0, 1, 2, 3, 4, 5, 6, 7, 8, 9], [9]), ([15, 16, 0, 1, 2, 3, 4, 5, 6, 7, 8, 9, 10, 11, 12, 13, 14, 15, 16], [15]), ([17, 0, 1, 2, 3, 4, 5, 6, 7, 8, 9, 10, 11, 12, 13, 14, 15, 16, 17], [])])
def ident_Parent.B4 : List Nat := [0, 1, 0, 4, 0, 16, 0, 112, 240, 511, 0, 1024, 0, 7168, 15360, 31744, 1023, 131071, 262143]
theorem ident_Parent.tab4 : rtab .any (opsOf Tryd.f20 4) = ident_Parent.T4 := by kernel_rfl
theorem ident_Parent.bits4 : waitsOk ident_Parent.T4.2 ident_Parent.B4 = true := by kernel_rfl
set_option maxHeartbeats 8000000 in
set_option maxRecDepth 100000 in
theorem ident_Parent.calls (a0_0 : Int) (a0_1 : Int) (A0_2 : Option Addr) (c0_2 : Nat) (l0_2 : List (S50)) (r1 : Int) (r2 : Int) (r3 : List (S50)) (r4 : Int) (r5 : Bool) (w : World) (hr0_2 : Kd.C k50 w A0_2 l0_2.length l0_2) (hc0_2 : l0_2.length ≤ c0_2) (h : ident_Parent.f a0_0 a0_1 l0_2 = some (r1, r2, r3, r4, r5)) :
  Calls Tryd.prog 20 #[.agg #[.int .i64 a0_0, .int .i64 a0_1, .slice A0_2 l0_2.length c0_2]] w fun e w' => ∃ v2_ : Value, e = .returned (.tuple #[.agg #[.int .i64 r1, .int .i64 r2, v2_], .int .i64 r4, .bool r5]) ∧ Kd.R k50 50 w' w.heap.size (fun _ => True) v2_ r3 ∧ Below w.heap.size w w' := by
 have hu24 := Tryd.underlying24
 have HR0_2 := Aside0.mk hr0_2
 have HC0_2 := Aside0.mk hc0_2
 clear hr0_2 hc0_2
 have HB := Aside0.mk (Below.refl w.heap.size w)
 have H : ((ident_Check.f a0_0 a0_1 l0_2).bind fun t113 => (if t113 = 0 then (if (wrap64 ((l0_2.length : Int) - 1)) < 0 then (some (0, 0, ([] : List (S50)), 0, false)) else (if 0 ≤ (wrap64 ((l0_2.length : Int) - 1)) then (if (wrap64 ((l0_2.length : Int) - 1)) ≤ (l0_2.length : Int) then ((api_Hop.f (l0_2.take ((wrap64 ((l0_2.length : Int) - 1)) : Int).toNat)).bind fun t118 => (if (wrap64 ((l0_2.length : Int) - 1)) < (l0_2.length : Int) then (some (a0_0, a0_1, t118, (rd_T50 l0_2 (wrap64 ((l0_2.length : Int) - 1))).f0, true)) else (none))) else (none)) else (none))) else (some (0, 0, ([] : List (S50)), 0, false)))) = some (r1, r2, r3, r4, r5) := h
 clear h
 obtain ⟨t113, A20, H⟩ := Option.bind_eq_some_iff.mp H
 try dsimp only at H
 have A2 := Aside0.mk A20
 clear A20
 by_cases c3 : t113 = 0
 ·rw [if_pos c3] at H
  have c3b0 : (t113 == 0) = true := beq_iff_eq.mpr c3
  have c3b1 : (t113 != 0) = false := bne_eq_false_iff_eq.mpr c3
  clear c3
  by_cases c4 : (wrap64 ((l0_2.length : Int) - 1)) < 0
  ·rw [if_pos c4] at H
   have c4b0 : decide ((wrap64 ((l0_2.length : Int) - 1)) < 0) = true := decide_eq_true c4
   clear c4
   simp only [Option.some.injEq, Prod.mk.injEq] at H
   obtain ⟨rfl, rfl, rfl, rfl, rfl⟩ := H
   go_enter Tryd.func20, Tryd.ntmps20
   go_wp2_with (first | ((with_reducible refine gate_dst (N := 1) rfl ?_); refine box_event ?hg (N := 1) ?hd (cs := #[.int .i64 a0_0, .int .i64 a0_1, .slice A0_2 l0_2.length c0_2]) (t := 24) ?hr ?_; (case hd => rfl); (case hg => rfl); (case hr => (go_simp; done)); intro gb111 hg w5 hbox hb; have BK111 := Aside0.mk (hbox); have GW111 := Aside0.mk ((by rw [hg]; exact (below_size (HB.out)) : w.heap.size ≤ gb111)); have GE111 := Aside0.mk ((by rw [hg]; exact (below_size (HB.out)) : w.heap.size ≤ gb111)); replace HB := Aside0.mk (below_step (HB.out) hb); clear hb hbox hg) | ((with_reducible refine gate_dst (N := 2) rfl ?_); refine box_event ?hg (N := 2) ?hd (cs := #[.int .i64 0, .int .i64 0, .slice none 0 0]) (t := 24) ?hr ?_; (case hd => rfl); (case hg => rfl); (case hr => (go_simp; done)); intro gb112 hg w6 hbox hb; have BK112 := Aside0.mk (hbox); have GW112 := Aside0.mk ((by rw [hg]; exact (below_size (HB.out)) : w.heap.size ≤ gb112)); have GE112 := Aside0.mk ((by rw [hg]; exact (below_size (HB.out)) : w.heap.size ≤ gb112)); replace HB := Aside0.mk (below_step (HB.out) hb); have NB111_112 := Aside0.mk ((by rw [hg]; exact Nat.ne_of_lt (blk_lt BK111.out) : gb111 ≠ gb112)); have NB112_111 := Aside0.mk ((by rw [hg]; exact Nat.ne_of_gt (blk_lt BK111.out) : gb112 ≠ gb111)); replace BK111 := Aside0.mk (blk_below BK111.out hb); clear hb hbox hg; have hnb7 := NB111_112.out; have hnc7 := NB112_111.out; obtain ⟨hcz8_0, hcz8_1, hcz8_2⟩ := bc3 BK111.out; obtain ⟨hfz8_0, hfz8_1, hfz8_2⟩ := bf3 BK111.out) | ((with_reducible refine gate_callee (f := 39) rfl ?_); refine goesL_ (some 11) rfl rfl Tryd.func39 (by kernel_rfl) rfl #[.agg #[.int .i64 a0_0, .int .i64 a0_1, .slice A0_2 l0_2.length c0_2]] rfl (by (try simp only [List.map_toArray, List.map_cons, List.map_nil]); rfl) ?_; (with_reducible refine (ident_Check.calls a0_0 a0_1 _ _ l0_2 t113 _ ?side1 ?side2 A2.out).mono ?_); (case side1 => exact (Kd.C_below HR0_2.out HB.out)); (case side2 => exact HC0_2.out); rintro e w9 ⟨rfl, hb⟩; refine ⟨_, rfl, ?_⟩; replace BK111 := Aside0.mk (blk_below BK111.out hb); replace BK112 := Aside0.mk (blk_below BK112.out hb); replace HB := Aside0.mk (below_step (HB.out) hb); clear hb; obtain ⟨hcz10_0, hcz10_1, hcz10_2⟩ := bc3 BK112.out; obtain ⟨hfz10_0, hfz10_1, hfz10_2⟩ := bf3 BK112.out))
   refine bodyPost_ret (results_ctt rfl _ _ gb112 24 #[.int .i64 0, .int .i64 0, .slice none 0 0] (0, 0) _ rfl (by refine blk_put (cs := #[.int .i64 0, .int .i64 0, .slice none 0 0]) ?_ 2 _ rfl; refine blk_put (cs := #[.int .i64 0, .int .i64 0, .slice none 0 0]) ?_ 1 _ rfl; refine blk_put (cs := #[.int .i64 0, .int .i64 0, .slice none 0 0]) ?_ 0 _ rfl; exact BK112.out) Tryd.underlying24 rfl (by kernel_rfl)) rfl ?_
   exact ⟨_, by rfl, by exact Kd.R_nil _ _ _ _ _, below_set (below_set (below_set HB.out GE112.out) GE112.out) GE112.out⟩
  ·rw [if_neg c4] at H
   have c4b0 : decide ((wrap64 ((l0_2.length : Int) - 1)) < 0) = false := decide_eq_false c4
   clear c4
   obtain ⟨ji11, hji11⟩ : ∃ j_ : Int, (wrap64 ((l0_2.length : Int) - 1)) = j_ := ⟨_, rfl⟩
   replace H : (if 0 ≤ (ji11) then (if (ji11) ≤ (l0_2.length : Int) then ((api_Hop.f (l0_2.take ((ji11) : Int).toNat)).bind fun t118 => (if (ji11) < (l0_2.length : Int) then (some (a0_0, a0_1, t118, (rd_T50 l0_2 (ji11)).f0, true)) else (none))) else (none)) else (none)) = some (r1, r2, r3, r4, r5) := by (rw [hji11] at H; exact H)
   (try rw [hji11] at c4b0)
   (try rw [hji11] at A2)
   have hji11w : (IntKind.i64.wrap ((l0_2.length : Int) - 1)) = ji11 := (i64_w _).trans hji11
   by_cases c12 : 0 ≤ (ji11)
   ·rw [if_pos c12] at H
    have c12b0 := eq_true c12
    have c12b1 : decide (0 ≤ (ji11)) = true := decide_eq_true c12
    clear c12
    by_cases c13 : (ji11) ≤ (l0_2.length : Int)
    ·rw [if_pos c13] at H
     have c13b0 := eq_true c13
     have c13b1 : decide ((ji11) ≤ (l0_2.length : Int)) = true := decide_eq_true c13
     clear c13
     obtain ⟨y114, hy114⟩ : ∃ y_ : List (S50), y_ = (l0_2.take ((ji11) : Int).toNat) := ⟨_, rfl⟩
     replace H : ((api_Hop.f y114).bind fun t118 => (if (ji11) < (l0_2.length : Int) then (some (a0_0, a0_1, t118, (rd_T50 l0_2 (ji11)).f0, true)) else (none))) = some (r1, r2, r3, r4, r5) := by (rw [hy114]; with_reducible exact H)
     have Ny114 := Aside0.mk hy114
     clear hy114
     obtain ⟨t118, A140, H⟩ := Option.bind_eq_some_iff.mp H
     try dsimp only at H
     have A14 := Aside0.mk A140
     clear A140
     by_cases c15 : (ji11) < (l0_2.length : Int)
     ·rw [if_pos c15] at H
      have c15b0 : decide ((ji11) < (l0_2.length : Int)) = true := decide_eq_true c15
      clear c15
      simp only [Option.some.injEq, Prod.mk.injEq] at H
      obtain ⟨rfl, rfl, rfl, rfl, rfl⟩ := H
      go_enter Tryd.func20, Tryd.ntmps20
      try go_wp2_with (first | ((with_reducible refine gate_dst (N := 1) rfl ?_); refine box_event ?hg (N := 1) ?hd (cs := #[.int .i64 a0_0, .int .i64 a0_1, .slice A0_2 l0_2.length c0_2]) (t := 24) ?hr ?_; (case hd => rfl); (case hg => rfl); (case hr => (go_simp; done)); intro gb111 hg w16 hbox hb; have BK111 := Aside0.mk (hbox); have GW111 := Aside0.mk ((by rw [hg]; exact (below_size (HB.out)) : w.heap.size ≤ gb111)); have GE111 := Aside0.mk ((by rw [hg]; exact (below_size (HB.out)) : w.heap.size ≤ gb111)); replace HB := Aside0.mk (below_step (HB.out) hb); clear hb hbox hg) | ((with_reducible refine gate_dst (N := 2) rfl ?_); refine box_event ?hg (N := 2) ?hd (cs := #[.int .i64 0, .int .i64 0, .slice none 0 0]) (t := 24) ?hr ?_; (case hd => rfl); (case hg => rfl); (case hr => (go_simp; done)); intro gb112 hg w17 hbox hb; have BK112 := Aside0.mk (hbox); have GW112 := Aside0.mk ((by rw [hg]; exact (below_size (HB.out)) : w.heap.size ≤ gb112)); have GE112 := Aside0.mk ((by rw [hg]; exact (below_size (HB.out)) : w.heap.size ≤ gb112)); replace HB := Aside0.mk (below_step (HB.out) hb); have NB111_112 := Aside0.mk ((by rw [hg]; exact Nat.ne_of_lt (blk_lt BK111.out) : gb111 ≠ gb112)); have NB112_111 := Aside0.mk ((by rw [hg]; exact Nat.ne_of_gt (blk_lt BK111.out) : gb112 ≠ gb111)); replace BK111 := Aside0.mk (blk_below BK111.out hb); clear hb hbox hg; have hnb18 := NB111_112.out; have hnc18 := NB112_111.out; obtain ⟨hcz19_0, hcz19_1, hcz19_2⟩ := bc3 BK111.out; obtain ⟨hfz19_0, hfz19_1, hfz19_2⟩ := bf3 BK111.out) | ((with_reducible refine gate_callee (f := 39) rfl ?_); refine goesL_ (some 11) rfl rfl Tryd.func39 (by kernel_rfl) rfl #[.agg #[.int .i64 a0_0, .int .i64 a0_1, .slice A0_2 l0_2.length c0_2]] rfl (by (try simp only [List.map_toArray, List.map_cons, List.map_nil]); rfl) ?_; (with_reducible refine (ident_Check.calls a0_0 a0_1 _ _ l0_2 t113 _ ?side1 ?side2 A2.out).mono ?_); (case side1 => exact (Kd.C_below HR0_2.out HB.out)); (case side2 => exact HC0_2.out); rintro e w20 ⟨rfl, hb⟩; refine ⟨_, rfl, ?_⟩; replace BK111 := Aside0.mk (blk_below BK111.out hb); replace BK112 := Aside0.mk (blk_below BK112.out hb); replace HB := Aside0.mk (below_step (HB.out) hb); clear hb))
      have n0_ := Aside0.mk (blk_drew BK111.out)
      have n1_ := Aside0.mk (blk_drew BK112.out)
      have n2_ := Aside0.mk (below_drew1 HB.out)
      clear BK111 BK112 HB
      have BK111 := n0_
      have BK112 := n1_
      have HB := n2_
      clear n0_ n1_ n2_
      have q22 : ((ji11) : Int) ≤ ((l0_2.length : Int) : Int) := of_decide_eq_true (by (with_reducible assumption))
      obtain ⟨i022, hi022, _, hsz22, _⟩ := info_parts info50
      have hroom22 : l0_2.length ≤ c0_2 := HC0_2.out
      have hC22 : Kd.C k50 _ A0_2 l0_2.length l0_2 := HR0_2.out
      have hcut22 := cut_to (P := Tryd.prog) 22 50 .i64 Tryd.underlying22 hi022 A0_2 l0_2.length c0_2 (ji11) (of_decide_eq_true (by (with_reducible assumption))) q22 hroom22
      have hr22 := Kd.C_take (m := ((ji11) : Int).toNat) hC22 (by omega)
      have hy22 : y114.length = ((ji11) : Int).toNat := (by rw [Ny114.out, List.length_take]; omega)
      rw [← Ny114.out] at hr22
      rw [← hy22] at hcut22
      have HR117 := Aside0.mk hr22
      have HC117 := Aside0.mk (show y114.length ≤ c0_2 from by omega)
      clear hr22 hC22 hroom22 hi022 hsz22
      have KY22 := Aside0.mk hy22
      clear hy22
      replace q22 := eq_true q22
      have p121 : 0 ≤ ((ji11) : Int) := of_decide_eq_true (by (with_reducible assumption))
      have q121 : (ji11) < (l0_2.length : Int) := of_decide_eq_true (by (with_reducible assumption))
      obtain ⟨ad121, e121, hx121_0, hx121_1⟩ := at_T50 HR0_2.out (ji11) p121 q121
      have hw121_1 := hx121_1
      have hw121_0 := hx121_0
      cases e121
      try replace hx121_0 := (HB.out.cell (World.block_lt_of_cell? w _ hx121_0)).trans hx121_0
      try replace hx121_1 := (HB.out.cell (World.block_lt_of_cell? w _ hx121_1)).trans hx121_1
      replace p121 := eq_true p121
      replace q121 := eq_true q121
      refine start_ (n := 19) (S := fun w' => w'.cell? ⟨gb111, 0, none⟩ = some (.int .i64 a0_0) ∧ w'.cell? ⟨gb111, 1, none⟩ = some (.int .i64 a0_1) ∧ w'.cell? ⟨gb111, 2, none⟩ = some (.slice (some ad121) l0_2.length c0_2) ∧ w'.cell? (ad121.add (((ji11)).toNat * 2)) = some (.int .i64 ((rd_T50 l0_2 (ji11)).f0)) ∧ w'.cell? ⟨(ad121.add (((ji11)).toNat * 2)).block, (ad121.add (((ji11)).toNat * 2)).off + 1, none⟩ = some (.int .i64 ((rd_T50 l0_2 (ji11)).f1))) (ds := []) #[false, false, false, false, false, false, false, false, false, false, false, false, false, false, false, false, false, false, false] (by kernel_rfl) rfl rfl ⟨(blk_cell BK111.out 0).trans rfl, (blk_cell BK111.out 1).trans rfl, (blk_cell BK111.out 2).trans rfl, ((HB.out.cell (World.block_lt_of_cell? w _ hw121_0)).trans hw121_0), ((HB.out.cell (World.block_lt_of_cell? w _ hw121_1)).trans hw121_1)⟩ (fun hHeld => ?_); refine with_tabW ident_Parent.tab4 ident_Parent.bits4 (fun HT_ HW_ => ?_)
      generalize w20.drew = w21 at BK111 BK112 HB HR117 hx121_0 hx121_1 hHeld ⊢
      refine pure_ (i := 0) (N := some 18) (v := ?_) (a' := ?_) #[true, false, false, false, false, false, false, false, false, false, false, false, false, false, false, false, false, false, false] rfl rfl (any_of HT_.out (by kernel_rfl)) (fun _ _ _ h => h) (Or.inl ⟨by rfl, ?_⟩) ?_ ?_
      rotate_left
      ·intro w'
       go_simp
       with_reducible rfl
      rotate_left
      ·simp only [Act.put, List.setIfInBounds_toArray, List.set_cons_zero, List.set_cons_succ, i64_w, i32_w]
       rfl
      refine pure_ (i := 2) (N := some 20) (v := ?_) (a' := ?_) #[true, false, true, false, false, false, false, false, false, false, false, false, false, false, false, false, false, false, false] rfl rfl (any_of HT_.out (by kernel_rfl)) (fun _ _ _ h => h) (Or.inl ⟨by rfl, ?_⟩) ?_ ?_
      rotate_left
      ·intro w'
       go_simp
       with_reducible rfl
      rotate_left
      ·simp only [Act.put, List.setIfInBounds_toArray, List.set_cons_zero, List.set_cons_succ, i64_w, i32_w]
       rfl
      refine pure_ (i := 4) (N := some 22) (v := ?_) (a' := ?_) #[true, false, true, false, true, false, false, false, false, false, false, false, false, false, false, false, false, false, false] rfl rfl (any_of HT_.out (by kernel_rfl)) (fun _ _ _ h => h) (Or.inl ⟨by rfl, ?_⟩) ?_ ?_
      rotate_left
      ·intro w'
       go_simp
       with_reducible rfl
      rotate_left
      ·simp only [Act.put, List.setIfInBounds_toArray, List.set_cons_zero, List.set_cons_succ, i64_w, i32_w]
       rfl
      refine pure_ (i := 6) (N := some 24) (v := ?_) (a' := ?_) #[true, false, true, false, true, false, true, false, false, false, false, false, false, false, false, false, false, false, false] rfl rfl (any_of HT_.out (by kernel_rfl)) (fun _ _ _ h => h) (Or.inl ⟨by rfl, ?_⟩) ?_ ?_
      rotate_left
      ·intro w'
       go_simp
       with_reducible rfl
      rotate_left
      ·simp only [Act.put, List.setIfInBounds_toArray, List.set_cons_zero, List.set_cons_succ, i64_w, i32_w]
       rfl
      refine pure_ (i := 10) (N := some 28) (v := ?_) (a' := ?_) #[true, false, true, false, true, false, true, false, false, false, true, false, false, false, false, false, false, false, false] rfl rfl (any_of HT_.out (by kernel_rfl)) (fun _ _ _ h => h) (Or.inl ⟨by rfl, ?_⟩) ?_ ?_
      rotate_left
      ·intro w'
       go_simp
       with_reducible rfl
      rotate_left
      ·simp only [Act.put, List.setIfInBounds_toArray, List.set_cons_zero, List.set_cons_succ, i64_w, i32_w]
       rfl
      refine pure_ (i := 12) (N := some 30) (v := ?_) (a' := ?_) #[true, false, true, false, true, false, true, false, false, false, true, false, true, false, false, false, false, false, false] rfl rfl (any_of HT_.out (by kernel_rfl)) (fun _ _ _ h => h) (Or.inl ⟨by rfl, ?_⟩) ?_ ?_
      rotate_left
      ·intro w'
       go_simp
       with_reducible rfl
      rotate_left
      ·simp only [Act.put, List.setIfInBounds_toArray, List.set_cons_zero, List.set_cons_succ, i64_w, i32_w]
       rfl
      refine take_ (i := 1) (N := some 19) (v := ?_) (a' := ?_) #[true, true, true, false, true, false, true, false, false, false, true, false, true, false, false, false, false, false, false] rfl rfl (take_ofW HT_.out HW_.out (by kernel_rfl)) (fun _ _ _ h => h) (Or.inl ⟨by rfl, ?_⟩) hHeld ?_ ?_
      rotate_left
      ·rintro w' ⟨s0, s1, s2, s3, s4⟩
       go_simp
       with_reducible rfl
      rotate_left
      ·simp only [Act.put, List.setIfInBounds_toArray, List.set_cons_zero, List.set_cons_succ, i64_w, i32_w]
       rfl
      refine take_ (i := 3) (N := some 21) (v := ?_) (a' := ?_) #[true, true, true, true, true, false, true, false, false, false, true, false, true, false, false, false, false, false, false] rfl rfl (take_ofW HT_.out HW_.out (by kernel_rfl)) (fun _ _ _ h => h) (Or.inl ⟨by rfl, ?_⟩) hHeld ?_ ?_
      rotate_left
      ·rintro w' ⟨s0, s1, s2, s3, s4⟩
       go_simp
       with_reducible rfl
      rotate_left
      ·simp only [Act.put, List.setIfInBounds_toArray, List.set_cons_zero, List.set_cons_succ, i64_w, i32_w]
       rfl
      refine take_ (i := 5) (N := some 23) (v := ?_) (a' := ?_) #[true, true, true, true, true, true, true, false, false, false, true, false, true, false, false, false, false, false, false] rfl rfl (take_ofW HT_.out HW_.out (by kernel_rfl)) (fun _ _ _ h => h) (Or.inl ⟨by rfl, ?_⟩) hHeld ?_ ?_
      rotate_left
      ·rintro w' ⟨s0, s1, s2, s3, s4⟩
       go_simp
       with_reducible rfl
      rotate_left
      ·simp only [Act.put, List.setIfInBounds_toArray, List.set_cons_zero, List.set_cons_succ, i64_w, i32_w]
       rfl
      refine pure_ (i := 7) (N := some 25) (v := ?_) (a' := ?_) #[true, true, true, true, true, true, true, true, false, false, true, false, true, false, false, false, false, false, false] rfl rfl (any_of HT_.out (by kernel_rfl)) (fun _ _ _ h => h) (Or.inl ⟨by rfl, ?_⟩) ?_ ?_
      rotate_left
      ·intro w'
       go_simp
       with_reducible rfl
      rotate_left
      ·simp only [Act.put, List.setIfInBounds_toArray, List.set_cons_zero, List.set_cons_succ, i64_w, i32_w]
       rfl
      refine take_ (i := 11) (N := some 29) (v := ?_) (a' := ?_) #[true, true, true, true, true, true, true, true, false, false, true, true, true, false, false, false, false, false, false] rfl rfl (take_ofW HT_.out HW_.out (by kernel_rfl)) (fun _ _ _ h => h) (Or.inl ⟨by rfl, ?_⟩) hHeld ?_ ?_
      rotate_left
      ·rintro w' ⟨s0, s1, s2, s3, s4⟩
       go_simp
       with_reducible rfl
      rotate_left
      ·simp only [Act.put, List.setIfInBounds_toArray, List.set_cons_zero, List.set_cons_succ, i64_w, i32_w]
       rfl
      refine pure_ (i := 13) (N := some 31) (v := ?_) (a' := ?_) #[true, true, true, true, true, true, true, true, false, false, true, true, true, true, false, false, false, false, false] rfl rfl (any_of HT_.out (by kernel_rfl)) (fun _ _ _ h => h) (Or.inl ⟨by rfl, ?_⟩) ?_ ?_
      rotate_left
      ·intro w'
       go_simp
       with_reducible rfl
      rotate_left
      ·simp only [Act.put, List.setIfInBounds_toArray, List.set_cons_zero, List.set_cons_succ, i64_w, i32_w]
       rfl
      refine pure_ (i := 14) (N := some 32) (v := ?_) (a' := ?_) #[true, true, true, true, true, true, true, true, false, false, true, true, true, true, true, false, false, false, false] rfl rfl (any_of HT_.out (by kernel_rfl)) (fun _ _ _ h => h) (Or.inl ⟨by rfl, ?_⟩) ?_ ?_
      rotate_left
      ·intro w'
       go_simp
       with_reducible rfl
      rotate_left
      ·simp only [Act.put, List.setIfInBounds_toArray, List.set_cons_zero, List.set_cons_succ, i64_w, i32_w]
       rfl
      refine take_ (i := 15) (N := some 33) (v := ?_) (a' := ?_) #[true, true, true, true, true, true, true, true, false, false, true, true, true, true, true, true, false, false, false] rfl rfl (take_ofW HT_.out HW_.out (by kernel_rfl)) (fun _ _ _ h => h) (Or.inl ⟨by rfl, ?_⟩) hHeld ?_ ?_
      rotate_left
      ·rintro w' ⟨s0, s1, s2, s3, s4⟩
       go_simp
       with_reducible rfl
      rotate_left
      ·simp only [Act.put, List.setIfInBounds_toArray, List.set_cons_zero, List.set_cons_succ, i64_w, i32_w]
       rfl
      refine one_ (i := 8) (N := some 26) #[true, true, true, true, true, true, true, true, true, false, true, true, true, true, true, true, false, false, false] rfl rfl (one_of HT_.out (by kernel_rfl)) (by decide) (fun K hK => ?_)
      refine goes_ Tryd.func41 (by kernel_rfl) rfl #[.slice (some ad121) y114.length c0_2] (by rfl) rfl rfl (by (try simp only [List.map_toArray, List.map_cons, List.map_nil]); rfl) ?_
      with_reducible refine (api_Hop.calls _ _ y114 t118 _ ?side1 ?side2 A14.out).mono ?_
      (case side1 => exact (Kd.C_below HR117.out HB.out))
      (case side2 => exact HC117.out)
      rintro e w23 ⟨v119, rfl, ho0, hb⟩
      refine ⟨_, rfl, ?_⟩
      have n0_ := Aside0.mk (Kd.R_lower ho0 (below_size (HB.out)))
      have n1_ := Aside0.mk (blk_below BK111.out hb)
      have n2_ := Aside0.mk (blk_below BK112.out hb)
      have n3_ := Aside0.mk (below_step (HB.out) hb)
      clear BK111 BK112 HB
      have HO120 := n0_
      have BK111 := n1_
      have BK112 := n2_
      have HB := n3_
      clear n0_ n1_ n2_ n3_
      clear hb
      clear ho0
      obtain ⟨Ao24, co24, eo24⟩ := Kd.R_slice HO120.out
      (subst eo24)
      refine hK.out _ _ ⟨(blk_cell BK111.out 0).trans rfl, (blk_cell BK111.out 1).trans rfl, (blk_cell BK111.out 2).trans rfl, ((HB.out.cell (World.block_lt_of_cell? w _ hw121_0)).trans hw121_0), ((HB.out.cell (World.block_lt_of_cell? w _ hw121_1)).trans hw121_1)⟩ (fun hHeld => ?_)
      clear hK K
      refine norm_ (a' := ?_) ?_ ?_
      rotate_left
      ·show Act.put _ (some 26) _ = _
       simp only [Act.put, List.setIfInBounds_toArray, List.set_cons_zero, List.set_cons_succ, i64_w, i32_w]
       rfl
      refine pure_ (i := 9) (N := some 27) (v := ?_) (a' := ?_) #[true, true, true, true, true, true, true, true, true, true, true, true, true, true, true, true, false, false, false] rfl rfl (any_of HT_.out (by kernel_rfl)) (fun _ _ _ h => h) (Or.inl ⟨by rfl, ?_⟩) ?_ ?_
      rotate_left
      ·intro w'
       go_simp
       with_reducible rfl
      rotate_left
      ·simp only [Act.put, List.setIfInBounds_toArray, List.set_cons_zero, List.set_cons_succ, i64_w, i32_w]
       rfl
      refine one_ (i := 16) (N := none) #[true, true, true, true, true, true, true, true, true, true, true, true, true, true, true, true, true, false, false] rfl rfl (one_of HT_.out (by kernel_rfl)) (by decide) (fun K hK => ?_)
      have hs25 : w23.cell? ⟨gb112, 0, none⟩ = some (.int .i64 0) := (blk_cell BK112.out 0).trans rfl
      have hfs25 := blk_frozen BK112.out 0
      have hns25_0 := NB111_112.out
      have hms25_0 := NB112_111.out
      have hs26 : w23.cell? ⟨gb112, 1, none⟩ = some (.int .i64 0) := (blk_cell BK112.out 1).trans rfl
      have hfs26 := blk_frozen BK112.out 1
      have hns26_0 := NB111_112.out
      have hms26_0 := NB112_111.out
      have hs27 : w23.cell? ⟨gb112, 2, none⟩ = some (.slice none 0 0) := (blk_cell BK112.out 2).trans rfl
      have hfs27 := blk_frozen BK112.out 2
      have hns27_0 := NB111_112.out
      have hms27_0 := NB112_111.out
      refine skip_ (w1 := ?_) (by rfl) rfl ?_ ?_
      rotate_left
      ·go_simp
       rfl
      refine hK.out _ _ ⟨((cell_far (p := ⟨gb112, _, none⟩) NB111_112.out _).trans (((cell_far (p := ⟨gb112, _, none⟩) NB111_112.out _).trans (((cell_far (p := ⟨gb112, _, none⟩) NB111_112.out _).trans (hHeld.1)))))), ((cell_far (p := ⟨gb112, _, none⟩) NB111_112.out _).trans (((cell_far (p := ⟨gb112, _, none⟩) NB111_112.out _).trans (((cell_far (p := ⟨gb112, _, none⟩) NB111_112.out _).trans (hHeld.2.1)))))), ((cell_far (p := ⟨gb112, _, none⟩) NB111_112.out _).trans (((cell_far (p := ⟨gb112, _, none⟩) NB111_112.out _).trans (((cell_far (p := ⟨gb112, _, none⟩) NB111_112.out _).trans (hHeld.2.2.1)))))), ((cell_far (p := ⟨gb112, _, none⟩) (by first | exact Nat.ne_of_lt (Nat.lt_of_lt_of_le (by have := World.block_lt_of_cell? _ _ hw121_0; exact this) GW112.out) | (rw [add_block]; exact Nat.ne_of_lt (Nat.lt_of_lt_of_le (by have := World.block_lt_of_cell? _ _ hw121_0; first | rwa [add_block] at this | exact this) GW112.out)) | (show (Addr.add _ _).block ≠ _; rw [add_block]; exact Nat.ne_of_lt (Nat.lt_of_lt_of_le (by have := World.block_lt_of_cell? _ _ hw121_0; first | rwa [add_block] at this | exact this) GW112.out)) | (dsimp only; exact Nat.ne_of_lt (Nat.lt_of_lt_of_le (by have := World.block_lt_of_cell? _ _ hw121_0; first | rwa [add_block] at this | exact this) GW112.out))) _).trans (((cell_far (p := ⟨gb112, _, none⟩) (by first | exact Nat.ne_of_lt (Nat.lt_of_lt_of_le (by have := World.block_lt_of_cell? _ _ hw121_0; exact this) GW112.out) | (rw [add_block]; exact Nat.ne_of_lt (Nat.lt_of_lt_of_le (by have := World.block_lt_of_cell? _ _ hw121_0; first | rwa [add_block] at this | exact this) GW112.out)) | (show (Addr.add _ _).block ≠ _; rw [add_block]; exact Nat.ne_of_lt (Nat.lt_of_lt_of_le (by have := World.block_lt_of_cell? _ _ hw121_0; first | rwa [add_block] at this | exact this) GW112.out)) | (dsimp only; exact Nat.ne_of_lt (Nat.lt_of_lt_of_le (by have := World.block_lt_of_cell? _ _ hw121_0; first | rwa [add_block] at this | exact this) GW112.out))) _).trans (((cell_far (p := ⟨gb112, _, none⟩) (by first | exact Nat.ne_of_lt (Nat.lt_of_lt_of_le (by have := World.block_lt_of_cell? _ _ hw121_0; exact this) GW112.out) | (rw [add_block]; exact Nat.ne_of_lt (Nat.lt_of_lt_of_le (by have := World.block_lt_of_cell? _ _ hw121_0; first | rwa [add_block] at this | exact this) GW112.out)) | (show (Addr.add _ _).block ≠ _; rw [add_block]; exact Nat.ne_of_lt (Nat.lt_of_lt_of_le (by have := World.block_lt_of_cell? _ _ hw121_0; first | rwa [add_block] at this | exact this) GW112.out)) | (dsimp only; exact Nat.ne_of_lt (Nat.lt_of_lt_of_le (by have := World.block_lt_of_cell? _ _ hw121_0; first | rwa [add_block] at this | exact this) GW112.out))) _).trans (hHeld.2.2.2.1)))))), ((cell_far (p := ⟨gb112, _, none⟩) (by first | exact Nat.ne_of_lt (Nat.lt_of_lt_of_le (by have := World.block_lt_of_cell? _ _ hw121_1; exact this) GW112.out) | (rw [add_block]; exact Nat.ne_of_lt (Nat.lt_of_lt_of_le (by have := World.block_lt_of_cell? _ _ hw121_1; first | rwa [add_block] at this | exact this) GW112.out)) | (show (Addr.add _ _).block ≠ _; rw [add_block]; exact Nat.ne_of_lt (Nat.lt_of_lt_of_le (by have := World.block_lt_of_cell? _ _ hw121_1; first | rwa [add_block] at this | exact this) GW112.out)) | (dsimp only; exact Nat.ne_of_lt (Nat.lt_of_lt_of_le (by have := World.block_lt_of_cell? _ _ hw121_1; first | rwa [add_block] at this | exact this) GW112.out))) _).trans (((cell_far (p := ⟨gb112, _, none⟩) (by first | exact Nat.ne_of_lt (Nat.lt_of_lt_of_le (by have := World.block_lt_of_cell? _ _ hw121_1; exact this) GW112.out) | (rw [add_block]; exact Nat.ne_of_lt (Nat.lt_of_lt_of_le (by have := World.block_lt_of_cell? _ _ hw121_1; first | rwa [add_block] at this | exact this) GW112.out)) | (show (Addr.add _ _).block ≠ _; rw [add_block]; exact Nat.ne_of_lt (Nat.lt_of_lt_of_le (by have := World.block_lt_of_cell? _ _ hw121_1; first | rwa [add_block] at this | exact this) GW112.out)) | (dsimp only; exact Nat.ne_of_lt (Nat.lt_of_lt_of_le (by have := World.block_lt_of_cell? _ _ hw121_1; first | rwa [add_block] at this | exact this) GW112.out))) _).trans (((cell_far (p := ⟨gb112, _, none⟩) (by first | exact Nat.ne_of_lt (Nat.lt_of_lt_of_le (by have := World.block_lt_of_cell? _ _ hw121_1; exact this) GW112.out) | (rw [add_block]; exact Nat.ne_of_lt (Nat.lt_of_lt_of_le (by have := World.block_lt_of_cell? _ _ hw121_1; first | rwa [add_block] at this | exact this) GW112.out)) | (show (Addr.add _ _).block ≠ _; rw [add_block]; exact Nat.ne_of_lt (Nat.lt_of_lt_of_le (by have := World.block_lt_of_cell? _ _ hw121_1; first | rwa [add_block] at this | exact this) GW112.out)) | (dsimp only; exact Nat.ne_of_lt (Nat.lt_of_lt_of_le (by have := World.block_lt_of_cell? _ _ hw121_1; first | rwa [add_block] at this | exact this) GW112.out))) _).trans (hHeld.2.2.2.2))))))⟩ (fun hHeld => ?_)
      clear hK K
      refine pure_ (i := 17) (N := some 3) (v := ?_) (a' := ?_) #[true, true, true, true, true, true, true, true, true, true, true, true, true, true, true, true, true, true, false] rfl rfl (any_of HT_.out (by kernel_rfl)) (fun _ _ _ h => h) (Or.inl ⟨by rfl, ?_⟩) ?_ ?_
      rotate_left
      ·intro w'
       go_simp
       with_reducible rfl
      rotate_left
      ·simp only [Act.put, List.setIfInBounds_toArray, List.set_cons_zero, List.set_cons_succ, i64_w, i32_w]
       rfl
      refine pure_ (i := 18) (N := some 4) (v := ?_) (a' := ?_) #[true, true, true, true, true, true, true, true, true, true, true, true, true, true, true, true, true, true, true] rfl rfl (any_of HT_.out (by kernel_rfl)) (fun _ _ _ h => h) (Or.inl ⟨by rfl, ?_⟩) ?_ ?_
      rotate_left
      ·intro w'
       go_simp
       with_reducible rfl
      rotate_left
      ·simp only [Act.put, List.setIfInBounds_toArray, List.set_cons_zero, List.set_cons_succ, i64_w, i32_w]
       rfl
      refine done_ (done_of HT_.out (by kernel_rfl)) ?_
      try go_wp2
      refine bodyPost_ret (results_ctt rfl _ _ gb112 24 #[.int .i64 a0_0, .int .i64 a0_1, .slice Ao24 t118.length co24] (0, 0) _ rfl (by refine blk_put (cs := #[.int .i64 a0_0, .int .i64 a0_1, .slice none 0 0]) ?_ 2 _ rfl; refine blk_put (cs := #[.int .i64 a0_0, .int .i64 0, .slice none 0 0]) ?_ 1 _ rfl; refine blk_put (cs := #[.int .i64 0, .int .i64 0, .slice none 0 0]) ?_ 0 _ rfl; exact BK112.out) Tryd.underlying24 rfl (by kernel_rfl)) rfl ?_
      exact ⟨_, by first | rfl | (simp [errW_none, errW_some] <;> rfl) | (simp only [← hji11]; first | rfl | (simp [errW_none, errW_some] <;> rfl)) | (simp [*, errW_none, errW_some] <;> rfl), by exact Kd.R_mono (Kd.R_far (p := ⟨gb112, 2, none⟩) (Kd.R_far (p := ⟨gb112, 1, none⟩) (Kd.R_far (p := ⟨gb112, 0, none⟩) (Kd.R_types HO120.out BK112.out (by decide)) (fun _ hk => hk.2) (.int .i64 a0_0)) (fun _ hk => hk.2) (.int .i64 a0_1)) (fun _ hk => hk.2) (.slice Ao24 t118.length co24)) (fun _ hk => trivial), below_set (below_set (below_set HB.out GE112.out) GE112.out) GE112.out⟩
     ·rw [if_neg c15] at H
      exact absurd H (by simp)
    ·rw [if_neg c13] at H
     exact absurd H (by simp)
   ·rw [if_neg c12] at H
    exact absurd H (by simp)
 ·rw [if_neg c3] at H
  have c3b0 : (t113 == 0) = false := beq_eq_false_iff_ne.mpr c3
  have c3b1 : (t113 != 0) = true := bne_iff_ne.mpr c3
  simp only [Option.some.injEq, Prod.mk.injEq] at H
  obtain ⟨rfl, rfl, rfl, rfl, rfl⟩ := H
  go_enter Tryd.func20, Tryd.ntmps20
  go_wp2_with (first | ((with_reducible refine gate_dst (N := 1) rfl ?_); refine box_event ?hg (N := 1) ?hd (cs := #[.int .i64 a0_0, .int .i64 a0_1, .slice A0_2 l0_2.length c0_2]) (t := 24) ?hr ?_; (case hd => rfl); (case hg => rfl); (case hr => (go_simp; done)); intro gb111 hg w28 hbox hb; have BK111 := Aside0.mk (hbox); have GW111 := Aside0.mk ((by rw [hg]; exact (below_size (HB.out)) : w.heap.size ≤ gb111)); have GE111 := Aside0.mk ((by rw [hg]; exact (below_size (HB.out)) : w.heap.size ≤ gb111)); replace HB := Aside0.mk (below_step (HB.out) hb); clear hb hbox hg) | ((with_reducible refine gate_dst (N := 2) rfl ?_); refine box_event ?hg (N := 2) ?hd (cs := #[.int .i64 0, .int .i64 0, .slice none 0 0]) (t := 24) ?hr ?_; (case hd => rfl); (case hg => rfl); (case hr => (go_simp; done)); intro gb112 hg w29 hbox hb; have BK112 := Aside0.mk (hbox); have GW112 := Aside0.mk ((by rw [hg]; exact (below_size (HB.out)) : w.heap.size ≤ gb112)); have GE112 := Aside0.mk ((by rw [hg]; exact (below_size (HB.out)) : w.heap.size ≤ gb112)); replace HB := Aside0.mk (below_step (HB.out) hb); have NB111_112 := Aside0.mk ((by rw [hg]; exact Nat.ne_of_lt (blk_lt BK111.out) : gb111 ≠ gb112)); have NB112_111 := Aside0.mk ((by rw [hg]; exact Nat.ne_of_gt (blk_lt BK111.out) : gb112 ≠ gb111)); replace BK111 := Aside0.mk (blk_below BK111.out hb); clear hb hbox hg; have hnb30 := NB111_112.out; have hnc30 := NB112_111.out; obtain ⟨hcz31_0, hcz31_1, hcz31_2⟩ := bc3 BK111.out; obtain ⟨hfz31_0, hfz31_1, hfz31_2⟩ := bf3 BK111.out) | ((with_reducible refine gate_callee (f := 39) rfl ?_); refine goesL_ (some 11) rfl rfl Tryd.func39 (by kernel_rfl) rfl #[.agg #[.int .i64 a0_0, .int .i64 a0_1, .slice A0_2 l0_2.length c0_2]] rfl (by (try simp only [List.map_toArray, List.map_cons, List.map_nil]); rfl) ?_; (with_reducible refine (ident_Check.calls a0_0 a0_1 _ _ l0_2 t113 _ ?side1 ?side2 A2.out).mono ?_); (case side1 => exact (Kd.C_below HR0_2.out HB.out)); (case side2 => exact HC0_2.out); rintro e w32 ⟨rfl, hb⟩; refine ⟨_, rfl, ?_⟩; replace BK111 := Aside0.mk (blk_below BK111.out hb); replace BK112 := Aside0.mk (blk_below BK112.out hb); replace HB := Aside0.mk (below_step (HB.out) hb); clear hb; obtain ⟨hcz33_0, hcz33_1, hcz33_2⟩ := bc3 BK112.out; obtain ⟨hfz33_0, hfz33_1, hfz33_2⟩ := bf3 BK112.out))
  refine bodyPost_ret (results_ctt rfl _ _ gb112 24 #[.int .i64 0, .int .i64 0, .slice none 0 0] (0, 0) _ rfl (by refine blk_put (cs := #[.int .i64 0, .int .i64 0, .slice none 0 0]) ?_ 2 _ rfl; refine blk_put (cs := #[.int .i64 0, .int .i64 0, .slice none 0 0]) ?_ 1 _ rfl; refine blk_put (cs := #[.int .i64 0, .int .i64 0, .slice none 0 0]) ?_ 0 _ rfl; exact BK112.out) Tryd.underlying24 rfl (by kernel_rfl)) rfl ?_
  exact ⟨_, by rfl, by exact Kd.R_nil _ _ _ _ _, below_set (below_set (below_set HB.out GE112.out) GE112.out) GE112.out⟩

/-! ### act_Name: function 27 -/
mutual
def act_Name.j0 : Nat → ByteArray → Bool → Option (Bool)
 | 0, _, _ => none
 | k + 1, x0, x21 => if x21 = true then (some false) else (act_Name.l0 k x0 (x0.size : Int) 0)
def act_Name.l0 : Nat → ByteArray → Int → Int → Option (Bool)
 | 0, _, _, _ => none
 | k + 1, x0, x23, x24 => if x24 < x23 then (if 0 ≤ x24 then (if x24 < (x0.size : Int) then (if (bt x0 x24) < 97 then (if (bt x0 x24) < 48 then (some false) else (if (bt x0 x24) > 57 then (some false) else (act_Name.l0 k x0 x23 (wrap64 (x24 + 1))))) else (if (bt x0 x24) > 122 then (if (bt x0 x24) < 48 then (some false) else (if (bt x0 x24) > 57 then (some false) else (act_Name.l0 k x0 x23 (wrap64 (x24 + 1))))) else (act_Name.l0 k x0 x23 (wrap64 (x24 + 1))))) else (none)) else (none)) else (some true)
end
def act_Name.f (k : Nat) (a0 : ByteArray) : Option (Bool) := if a0.toList = ([] : List UInt8) then (act_Name.j0 k a0 true) else (if (a0.size : Int) > 16 then (act_Name.j0 k a0 true) else (if 0 < (a0.size : Int) then (if (bt a0 0) < 97 then (act_Name.j0 k a0 true) else (act_Name.j0 k a0 (decide ((bt a0 0) > 122)))) else (none)))
theorem act_Name.mono_l : ∀ k, (∀ y0 y1, LeO (act_Name.j0 k y0 y1) (act_Name.j0 (k + 1) y0 y1)) ∧ (∀ y0 y1 y2, LeO (act_Name.l0 k y0 y1 y2) (act_Name.l0 (k + 1) y0 y1 y2))
 | 0 => ⟨fun _ _ r h => by simp [act_Name.j0] at h, fun _ _ _ r h => by simp [act_Name.l0] at h⟩
 | k + 1 => by
  obtain ⟨ih0, ih1⟩ := act_Name.mono_l k
  refine ⟨?_, ?_⟩
  ·intro y0 y1
   unfold act_Name.j0
   repeat' first
   | (with_reducible exact ih0 _ _)
   | (with_reducible exact ih1 _ _ _)
   | (with_reducible exact LeO.refl _)
   | (with_reducible exact LeO.none _)
   | (with_reducible refine LeO.ite ?_ ?_)
   | (with_reducible refine LeO.bind ?_ (fun _ => ?_))
   | exact ih0 _ _
   | exact ih1 _ _ _
   | exact LeO.none _
   | refine LeO.ite ?_ ?_
   | refine LeO.bind ?_ (fun _ => ?_)
  ·intro y0 y1 y2
   unfold act_Name.l0
   repeat' first
   | (with_reducible exact ih0 _ _)
   | (with_reducible exact ih1 _ _ _)
   | (with_reducible exact LeO.refl _)
   | (with_reducible exact LeO.none _)
   | (with_reducible refine LeO.ite ?_ ?_)
   | (with_reducible refine LeO.bind ?_ (fun _ => ?_))
   | exact ih0 _ _
   | exact ih1 _ _ _
   | exact LeO.none _
   | refine LeO.ite ?_ ?_
   | refine LeO.bind ?_ (fun _ => ?_)
theorem act_Name.mono : ∀ a0 k, LeO (act_Name.f k a0) (act_Name.f (k + 1) a0) := by
 intro a0 k
 obtain ⟨ih0, ih1⟩ := act_Name.mono_l k
 unfold act_Name.f
 repeat' first
   | (with_reducible exact ih0 _ _)
   | (with_reducible exact ih1 _ _ _)
   | (with_reducible exact LeO.refl _)
   | (with_reducible exact LeO.none _)
   | (with_reducible refine LeO.ite ?_ ?_)
   | (with_reducible refine LeO.bind ?_ (fun _ => ?_))
   | exact ih0 _ _
   | exact ih1 _ _ _
   | exact LeO.none _
   | refine LeO.ite ?_ ?_
   | refine LeO.bind ?_ (fun _ => ?_)
set_option maxHeartbeats 8000000 in
set_option maxRecDepth 100000 in
theorem act_Name.calls (k : Nat) (a0 : ByteArray) (r : Bool) (w : World) (h : act_Name.f k a0 = some r) :
  Calls Tryd.prog 27 #[.string a0] w fun e w' => e = .returned (.bool r) ∧ Drawn0 w w' := by
 have H : (if a0.toList = ([] : List UInt8) then (act_Name.j0 k a0 true) else (if (a0.size : Int) > 16 then (act_Name.j0 k a0 true) else (if 0 < (a0.size : Int) then (if (bt a0 0) < 97 then (act_Name.j0 k a0 true) else (act_Name.j0 k a0 (decide ((bt a0 0) > 122)))) else (none)))) = some r := h
 clear h
 have HC2 := Aside0.mk H
 clear H
 go_enter Tryd.func27, Tryd.ntmps27
 go_upto_region 1 with (fail)
 go_cut [21] (fun v21 wc => ∃ (kq : Nat) (x21_1 : Bool), v21 = .bool x21_1 ∧ Aside0 (act_Name.j0 kq a0 x21_1 = some r) ∧ Aside0 (kq ≤ k) ∧ Drawn0 w wc)
 case first =>
  have H := HC2.out
  clear HC2
  by_cases c3 : a0.toList = ([] : List UInt8)
  ·rw [if_pos c3] at H
   have c3b0 : (a0.toList == ([] : List UInt8)) = true := beq_iff_eq.mpr c3
   have c3b1 : (a0.toList != ([] : List UInt8)) = false := bne_eq_false_iff_eq.mpr c3
   have c3b2 : a0.toList.isEmpty = true := by simpa using c3
   clear c3
   (skip)
   have H' := Aside0.mk H
   clear H
   go_wp2
   go_meet
   case rel => exact ⟨_, (true), (by rfl), H', ⟨by omega⟩, Drawn0.refl _⟩
  ·rw [if_neg c3] at H
   have c3b0 : (a0.toList == ([] : List UInt8)) = false := beq_eq_false_iff_ne.mpr c3
   have c3b1 : (a0.toList != ([] : List UInt8)) = true := bne_iff_ne.mpr c3
   have c3b2 : a0.toList.isEmpty = false := by simpa using c3
   (skip)
   by_cases c4 : (a0.size : Int) > 16
   ·rw [if_pos c4] at H
    have c4b0 : decide (16 < (a0.size : Int)) = true := decide_eq_true c4
    have c4b1 : decide (16 < a0.size) = true := decide_eq_true (by omega)
    clear c4
    have H' := Aside0.mk H
    clear H
    go_wp2
    go_meet
    case rel => exact ⟨_, (true), (by rfl), H', ⟨by omega⟩, Drawn0.refl _⟩
   ·rw [if_neg c4] at H
    have c4b0 : decide (16 < (a0.size : Int)) = false := decide_eq_false c4
    have c4b1 : decide (16 < a0.size) = false := decide_eq_false (by omega)
    clear c4
    by_cases c5 : 0 < (a0.size : Int)
    ·rw [if_pos c5] at H
     have c5b0 : decide (0 < (a0.size : Int)) = true := decide_eq_true c5
     have c5b1 : decide (0 < a0.size) = true := decide_eq_true (by omega)
     clear c5
     by_cases c7 : (bt a0 0) < 97
     ·rw [if_pos c7] at H
      have c7b0 : decide ((bt a0 0) < 97) = true := decide_eq_true c7
      clear c7
      have H' := Aside0.mk H
      clear H
      have p6 : 0 ≤ (0 : Int) := (by omega)
      have q6 : 0 < a0.size := (by have : (0 : Int) < (a0.size : Int) := of_decide_eq_true (by (with_reducible assumption)); omega)
      have hx6 : ∀ h : 0 < a0.size, ((a0[0]'h).toNat : Int) = bt a0 0 := bt_at a0 0
      clear p6
      have qi6 : (0 < (a0.size : Int)) = True := eq_true (of_decide_eq_true (by (with_reducible assumption)))
      replace q6 := eq_true q6
      go_wp2
      go_meet
      case rel => exact ⟨_, (true), (by rfl), H', ⟨by omega⟩, Drawn0.refl _⟩
     ·rw [if_neg c7] at H
      have c7b0 : decide ((bt a0 0) < 97) = false := decide_eq_false c7
      clear c7
      have H' := Aside0.mk H
      clear H
      have p6 : 0 ≤ (0 : Int) := (by omega)
      have q6 : 0 < a0.size := (by have : (0 : Int) < (a0.size : Int) := of_decide_eq_true (by (with_reducible assumption)); omega)
      have hx6 : ∀ h : 0 < a0.size, ((a0[0]'h).toNat : Int) = bt a0 0 := bt_at a0 0
      clear p6
      have qi6 : (0 < (a0.size : Int)) = True := eq_true (of_decide_eq_true (by (with_reducible assumption)))
      replace q6 := eq_true q6
      have p8 : 0 ≤ (0 : Int) := (by omega)
      have q8 : 0 < a0.size := (by have : (0 : Int) < (a0.size : Int) := of_decide_eq_true (by (with_reducible assumption)); omega)
      have hx8 : ∀ h : 0 < a0.size, ((a0[0]'h).toNat : Int) = bt a0 0 := bt_at a0 0
      clear p8
      have qi8 : (0 < (a0.size : Int)) = True := eq_true (of_decide_eq_true (by (with_reducible assumption)))
      replace q8 := eq_true q8
      go_wp2
      go_meet
      case rel => exact ⟨_, (decide ((bt a0 0) > 122)), (by rfl), H', ⟨by omega⟩, Drawn0.refl _⟩
    ·rw [if_neg c5] at H
     exact absurd H (by simp)
 case rest =>
  clear HC2
  obtain ⟨kq, x21_1, rfl, HA, HJ1, ⟨mc1, rfl⟩⟩ := hcut
  cases kq with
  | zero => exact absurd HA.out (by simp [act_Name.j0])
  | succ kj1 =>
   have H := HA.out
   clear HA
   simp only [act_Name.j0] at H
   by_cases c9 : x21_1 = true
   ·subst c9
    have H1 : (some false) = some r := by rw [if_pos rfl] at H; exact H
    clear H
    have H := H1
    clear H1
    obtain rfl := Option.some.inj H
    go_wp2
    go_ret
    exact ⟨by rfl, by repeat (first | exact Drawn0.refl _ | apply Drawn0.step)⟩
   ·replace c9 := Bool.eq_false_iff.mpr c9
    subst c9
    have H1 : (act_Name.l0 kj1 a0 (a0.size : Int) 0) = some r := by rw [if_neg (show ¬ (false = true) by decide)] at H; exact H
    clear H
    have H := H1
    clear H1
    have H' := Aside0.mk H
    clear H
    go_wp2
    go_loopg [24] kj1 (fun kq v24 w' => ∃ (x24_2 : Int), v24 = .int .i64 x24_2 ∧ Aside0 (act_Name.l0 kq a0 (a0.size : Int) x24_2 = some r) ∧ Aside0 (kq ≤ kj1) ∧ Drawn0 w w')
    case atStart => exact ⟨(0), (by rfl), H', ⟨Nat.le_refl _⟩, by repeat (first | exact Drawn0.refl _ | apply Drawn0.step)⟩
    case round =>
     clear H'
     obtain ⟨x24_2, rfl, HA, HK2, ⟨m2, rfl⟩⟩ := hrel
     cases gk with
     | zero => exact absurd HA.out (by simp [act_Name.l0])
     | succ k2 =>
      have H := HA.out
      clear HA
      simp only [act_Name.l0] at H
      by_cases c10 : x24_2 < (a0.size : Int)
      ·rw [if_pos c10] at H
       have c10b0 : decide (x24_2 < (a0.size : Int)) = true := decide_eq_true c10
       clear c10
       by_cases c11 : 0 ≤ x24_2
       ·rw [if_pos c11] at H
        have c11b0 : decide (0 ≤ x24_2) = true := decide_eq_true c11
        clear c11
        by_cases c12 : x24_2 < (a0.size : Int)
        ·rw [if_pos c12] at H
         have c12b0 : decide (x24_2 < (a0.size : Int)) = true := decide_eq_true c12
         clear c12
         by_cases c14 : (bt a0 x24_2) < 97
         ·rw [if_pos c14] at H
          have c14b0 : decide ((bt a0 x24_2) < 97) = true := decide_eq_true c14
          clear c14
          by_cases c15 : (bt a0 x24_2) < 48
          ·rw [if_pos c15] at H
           have c15b0 : decide ((bt a0 x24_2) < 48) = true := decide_eq_true c15
           clear c15
           obtain rfl := Option.some.inj H
           have p13 : 0 ≤ (x24_2 : Int) := of_decide_eq_true (by (with_reducible assumption))
           have q13 : x24_2 < (a0.size : Int) := of_decide_eq_true (by (with_reducible assumption))
           have hx13 := bt_at a0 x24_2
           replace p13 := eq_true p13
           replace q13 := eq_true q13
           go_wp2
           go_ret
           exact ⟨by rfl, by repeat (first | exact Drawn0.refl _ | apply Drawn0.step)⟩
          ·rw [if_neg c15] at H
           have c15b0 : decide ((bt a0 x24_2) < 48) = false := decide_eq_false c15
           clear c15
           by_cases c16 : (bt a0 x24_2) > 57
           ·rw [if_pos c16] at H
            have c16b0 : decide (57 < (bt a0 x24_2)) = true := decide_eq_true c16
            clear c16
            obtain rfl := Option.some.inj H
            have p13 : 0 ≤ (x24_2 : Int) := of_decide_eq_true (by (with_reducible assumption))
            have q13 : x24_2 < (a0.size : Int) := of_decide_eq_true (by (with_reducible assumption))
            have hx13 := bt_at a0 x24_2
            replace p13 := eq_true p13
            replace q13 := eq_true q13
            go_wp2
            go_ret
            exact ⟨by rfl, by repeat (first | exact Drawn0.refl _ | apply Drawn0.step)⟩
           ·rw [if_neg c16] at H
            have c16b0 : decide (57 < (bt a0 x24_2)) = false := decide_eq_false c16
            clear c16
            have H' := Aside0.mk H
            clear H
            have p13 : 0 ≤ (x24_2 : Int) := of_decide_eq_true (by (with_reducible assumption))
            have q13 : x24_2 < (a0.size : Int) := of_decide_eq_true (by (with_reducible assumption))
            have hx13 := bt_at a0 x24_2
            replace p13 := eq_true p13
            replace q13 := eq_true q13
            go_wp2
            go_roundg k2
            case measure => have := HJ1.out; have := HK2.out; omega
            case rel => exact ⟨(wrap64 (x24_2 + 1)), (by rfl), H', ⟨by have := HJ1.out; have := HK2.out; omega⟩, by repeat (first | exact Drawn0.refl _ | apply Drawn0.step)⟩
         ·rw [if_neg c14] at H
          have c14b0 : decide ((bt a0 x24_2) < 97) = false := decide_eq_false c14
          clear c14
          by_cases c17 : (bt a0 x24_2) > 122
          ·rw [if_pos c17] at H
           have c17b0 : decide (122 < (bt a0 x24_2)) = true := decide_eq_true c17
           clear c17
           by_cases c18 : (bt a0 x24_2) < 48
           ·rw [if_pos c18] at H
            have c18b0 : decide ((bt a0 x24_2) < 48) = true := decide_eq_true c18
            clear c18
            obtain rfl := Option.some.inj H
            have p13 : 0 ≤ (x24_2 : Int) := of_decide_eq_true (by (with_reducible assumption))
            have q13 : x24_2 < (a0.size : Int) := of_decide_eq_true (by (with_reducible assumption))
            have hx13 := bt_at a0 x24_2
            replace p13 := eq_true p13
            replace q13 := eq_true q13
            go_wp2
            go_ret
            exact ⟨by rfl, by repeat (first | exact Drawn0.refl _ | apply Drawn0.step)⟩
           ·rw [if_neg c18] at H
            have c18b0 : decide ((bt a0 x24_2) < 48) = false := decide_eq_false c18
            clear c18
            by_cases c19 : (bt a0 x24_2) > 57
            ·rw [if_pos c19] at H
             have c19b0 : decide (57 < (bt a0 x24_2)) = true := decide_eq_true c19
             clear c19
             obtain rfl := Option.some.inj H
             have p13 : 0 ≤ (x24_2 : Int) := of_decide_eq_true (by (with_reducible assumption))
             have q13 : x24_2 < (a0.size : Int) := of_decide_eq_true (by (with_reducible assumption))
             have hx13 := bt_at a0 x24_2
             replace p13 := eq_true p13
             replace q13 := eq_true q13
             go_wp2
             go_ret
             exact ⟨by rfl, by repeat (first | exact Drawn0.refl _ | apply Drawn0.step)⟩
            ·rw [if_neg c19] at H
             have c19b0 : decide (57 < (bt a0 x24_2)) = false := decide_eq_false c19
             clear c19
             have H' := Aside0.mk H
             clear H
             have p13 : 0 ≤ (x24_2 : Int) := of_decide_eq_true (by (with_reducible assumption))
             have q13 : x24_2 < (a0.size : Int) := of_decide_eq_true (by (with_reducible assumption))
             have hx13 := bt_at a0 x24_2
             replace p13 := eq_true p13
             replace q13 := eq_true q13
             go_wp2
             go_roundg k2
             case measure => have := HJ1.out; have := HK2.out; omega
             case rel => exact ⟨(wrap64 (x24_2 + 1)), (by rfl), H', ⟨by have := HJ1.out; have := HK2.out; omega⟩, by repeat (first | exact Drawn0.refl _ | apply Drawn0.step)⟩
          ·rw [if_neg c17] at H
           have c17b0 : decide (122 < (bt a0 x24_2)) = false := decide_eq_false c17
           clear c17
           have H' := Aside0.mk H
           clear H
           have p13 : 0 ≤ (x24_2 : Int) := of_decide_eq_true (by (with_reducible assumption))
           have q13 : x24_2 < (a0.size : Int) := of_decide_eq_true (by (with_reducible assumption))
           have hx13 := bt_at a0 x24_2
           replace p13 := eq_true p13
           replace q13 := eq_true q13
           go_wp2
           go_roundg k2
           case measure => have := HJ1.out; have := HK2.out; omega
           case rel => exact ⟨(wrap64 (x24_2 + 1)), (by rfl), H', ⟨by have := HJ1.out; have := HK2.out; omega⟩, by repeat (first | exact Drawn0.refl _ | apply Drawn0.step)⟩
        ·rw [if_neg c12] at H
         exact absurd H (by simp)
       ·rw [if_neg c11] at H
        exact absurd H (by simp)
      ·rw [if_neg c10] at H
       have c10b0 : decide (x24_2 < (a0.size : Int)) = false := decide_eq_false c10
       clear c10
       obtain rfl := Option.some.inj H
       go_wp2
       go_ret
       exact ⟨by rfl, by repeat (first | exact Drawn0.refl _ | apply Drawn0.step)⟩

end Go.Proofs.YtlaeihdldofkcaaDoor.PN

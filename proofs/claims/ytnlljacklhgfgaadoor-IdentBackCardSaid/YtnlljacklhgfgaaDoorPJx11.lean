/- The machine side of this seat's laws: plain functions, and proofs that the calls do what they say; written by a program of this session over the translation; no conditions beyond those typed. -/
import Derived.Test.YtnlljacklhgfgaaDoorPJx0
import Derived.Test.YtnlljacklhgfgaaDoorPJx1
import Derived.Test.YtnlljacklhgfgaaDoorPJx4
import Derived.Test.YtnlljacklhgfgaaDoorPJx5
import Derived.Test.YtnlljacklhgfgaaDoorPJx7
namespace Go.Proofs.YtnlljacklhgfgaaDoor.PI
open Go.RowKit Go.Proofs.YtnlljacklhgfgaaDoorW.PrintWords Go.Proofs.YtnlljacklhgfgaaDoorW.PrintLast Go.Proofs.YtnlljacklhgfgaaDoorW.PrintMore
attribute [local go_sem] max2_int min2_int max_two min_two max_three min_three max_four min_four   -- for this text's walks alone
set_option linter.unusedVariables false
set_option linter.unusedSimpArgs false

/-! ### ententelaw03_IdentBack: function 6 -/
def ententelaw03_IdentBack.j0 : Nat → ByteArray → Option (Bool)
 | 0, _ => none
 | k + 1, x1 => (ident_Parse.f k x1).bind fun bt315 => (if bt315.2.2.2 = 0 then ((ident_Show.f k bt315.1 bt315.2.1 bt315.2.2.1).bind fun bt322 => (if bt322.1.toList = x1.toList then (if bt322.2 = 0 then ((ident_Check.f bt315.1 bt315.2.1 bt315.2.2.1).bind fun t324 => (if t324 = 0 then ((ententelaw03_awake.f k).bind fun t325 => (some t325)) else (none))) else (none)) else (none))) else ((ententeref03_Same.f k bt315.1 bt315.2.1 bt315.2.2.1 0 0 ([] : List (S55))).bind fun t326 => (if t326 = true then (if bt315.2.2.2 = 30 then ((ententelaw03_awake.f k).bind fun t327 => (some t327)) else (none)) else (none))))
def ententelaw03_IdentBack.f (k : Nat) (a0_0 : Int) (a0_1 : Int) (l0_2 : List (S55)) (a1 : ByteArray) : Option (Bool) := (ident_Show.f k a0_0 a0_1 l0_2).bind fun bt305 => (if bt305.2 = 0 then ((ident_Parse.f k bt305.1).bind fun bt307 => (if bt307.2.2.2 = 0 then ((ententeref03_Same.f k bt307.1 bt307.2.1 bt307.2.2.1 a0_0 a0_1 l0_2).bind fun t314 => (if t314 = true then (ententelaw03_IdentBack.j0 k a1) else (none))) else (none))) else (ententelaw03_IdentBack.j0 k a1))
theorem ententelaw03_IdentBack.mono_l : ∀ k, (∀ y0, LeO (ententelaw03_IdentBack.j0 k y0) (ententelaw03_IdentBack.j0 (k + 1) y0))
 | 0 => fun _ r h => by simp [ententelaw03_IdentBack.j0] at h
 | k + 1 => by
  have ih0 := ententelaw03_IdentBack.mono_l k
  ·intro y0
   unfold ententelaw03_IdentBack.j0
   repeat' first
   | (with_reducible exact ih0 _)
   | (with_reducible exact ententelaw03_awake.mono _)
   | (with_reducible exact ententeref03_Same.mono _ _ _ _ _ _ _)
   | (with_reducible exact ident_Parse.mono _ _)
   | (with_reducible exact ident_Show.mono _ _ _ _)
   | (with_reducible exact LeO.refl _)
   | (with_reducible exact LeO.none _)
   | (with_reducible refine LeO.ite ?_ ?_)
   | (with_reducible refine LeO.bind ?_ (fun _ => ?_))
   | exact ih0 _
   | exact ententelaw03_awake.mono _
   | exact ententeref03_Same.mono _ _ _ _ _ _ _
   | exact ident_Parse.mono _ _
   | exact ident_Show.mono _ _ _ _
   | exact LeO.none _
   | refine LeO.ite ?_ ?_
   | refine LeO.bind ?_ (fun _ => ?_)
theorem ententelaw03_IdentBack.mono : ∀ a0 a1 a2 a3 k, LeO (ententelaw03_IdentBack.f k a0 a1 a2 a3) (ententelaw03_IdentBack.f (k + 1) a0 a1 a2 a3) := by
 intro a0 a1 a2 a3 k
 have ih0 := ententelaw03_IdentBack.mono_l k
 unfold ententelaw03_IdentBack.f
 repeat' first
   | (with_reducible exact ih0 _)
   | (with_reducible exact ententelaw03_awake.mono _)
   | (with_reducible exact ententeref03_Same.mono _ _ _ _ _ _ _)
   | (with_reducible exact ident_Parse.mono _ _)
   | (with_reducible exact ident_Show.mono _ _ _ _)
   | (with_reducible exact LeO.refl _)
   | (with_reducible exact LeO.none _)
   | (with_reducible refine LeO.ite ?_ ?_)
   | (with_reducible refine LeO.bind ?_ (fun _ => ?_))
   | exact ih0 _
   | exact ententelaw03_awake.mono _
   | exact ententeref03_Same.mono _ _ _ _ _ _ _
   | exact ident_Parse.mono _ _
   | exact ident_Show.mono _ _ _ _
   | exact LeO.none _
   | refine LeO.ite ?_ ?_
   | refine LeO.bind ?_ (fun _ => ?_)
set_option maxHeartbeats 8000000 in
set_option maxRecDepth 100000 in
theorem ententelaw03_IdentBack.calls (k : Nat) (a0_0 : Int) (a0_1 : Int) (A0_2 : Option Addr) (c0_2 : Nat) (l0_2 : List (S55)) (a1 : ByteArray) (r : Bool) (w : World) (hr0_2 : Kd.C k55 w A0_2 l0_2.length l0_2) (hc0_2 : l0_2.length ≤ c0_2) (hw_ : WH w) (h : ententelaw03_IdentBack.f k a0_0 a0_1 l0_2 a1 = some r) :
  Calls Tryd.prog 6 #[.agg #[.int .i64 a0_0, .int .i64 a0_1, .slice A0_2 l0_2.length c0_2], .string a1] w fun e w' => e = .returned (.bool r) ∧ Below w.heap.size w w' := by
 have hu24 := Tryd.underlying24
 have HR0_2 := Aside0.mk hr0_2
 have HC0_2 := Aside0.mk hc0_2
 clear hr0_2 hc0_2
 have HWH_ := Aside0.mk hw_
 clear hw_
 have HB := Aside0.mk (Below.refl w.heap.size w)
 have H : ((ident_Show.f k a0_0 a0_1 l0_2).bind fun bt305 => (if bt305.2 = 0 then ((ident_Parse.f k bt305.1).bind fun bt307 => (if bt307.2.2.2 = 0 then ((ententeref03_Same.f k bt307.1 bt307.2.1 bt307.2.2.1 a0_0 a0_1 l0_2).bind fun t314 => (if t314 = true then (ententelaw03_IdentBack.j0 k a1) else (none))) else (none))) else (ententelaw03_IdentBack.j0 k a1))) = some r := h
 clear h
 replace H := Option.bind_eq_some_iff.mp H
 obtain ⟨⟨t305, t306⟩, A30, H⟩ := H
 replace H : (if t306 = 0 then ((ident_Parse.f k t305).bind fun bt307 => (if bt307.2.2.2 = 0 then ((ententeref03_Same.f k bt307.1 bt307.2.1 bt307.2.2.1 a0_0 a0_1 l0_2).bind fun t314 => (if t314 = true then (ententelaw03_IdentBack.j0 k a1) else (none))) else (none))) else (ententelaw03_IdentBack.j0 k a1)) = some r := H
 have A3 := Aside0.mk A30
 clear A30
 have HC4 := Aside0.mk H
 clear H
 go_enter Tryd.func6, Tryd.ntmps6
 go_upto_if 19 with (first | ((with_reducible refine gate_dst (N := 2) rfl ?_); refine box_event ?hg (N := 2) ?hd (cs := #[.int .i64 a0_0, .int .i64 a0_1, .slice A0_2 l0_2.length c0_2]) (t := 24) ?hr ?_; (case hd => rfl); (case hg => rfl); (case hr => first | (go_simp; done) | (go_simp; rfl)); intro gb304 hg w5 hbox hb; have n0_ := Aside0.mk (below_step HB.out hb); have n1_ := Aside0.mk (hbox); have n2_ := Aside0.mk ((by rw [hg]; exact (below_size HB.out) : w.heap.size ≤ gb304)); have n3_ := Aside0.mk ((by rw [hg]; exact (below_size HB.out) : w.heap.size ≤ gb304)); clear HB; have HB := n0_; have BK304 := n1_; have GW304 := n2_; have GE304 := n3_; clear n0_ n1_ n2_ n3_; clear hb hbox hg; have hcz6_0 : w5.cell? ⟨gb304, 0, none⟩ = some (.int .i64 a0_0) := (blk_cell BK304.out 0).trans rfl; have hcz6_1 : w5.cell? ⟨gb304, 1, none⟩ = some (.int .i64 a0_1) := (blk_cell BK304.out 1).trans rfl; have hcz6_2 : w5.cell? ⟨gb304, 2, none⟩ = some (.slice A0_2 l0_2.length c0_2) := (blk_cell BK304.out 2).trans rfl; have hfz6_0 := blk_frozen BK304.out 0; have hfz6_1 := blk_frozen BK304.out 1; have hfz6_2 := blk_frozen BK304.out 2) | ((with_reducible refine gate_callee (f := 21) rfl ?_); refine goesL_ (some 15) rfl rfl Tryd.func21 (by kernel_rfl) rfl #[.agg #[.int .i64 a0_0, .int .i64 a0_1, .slice A0_2 l0_2.length c0_2]] rfl (by (try simp only [List.map_toArray, List.map_cons, List.map_nil]); first | done | rfl | (simp only [List.length_drop, List.length_take]; rfl)) ?_; (with_reducible refine (ident_Show.calls k a0_0 a0_1 _ _ l0_2 t305 t306 _ ?side1 ?side2 ?side3 A3.out).mono ?_); (case side1 => exact (Kd.C_below HR0_2.out HB.out)); (case side2 => exact HC0_2.out); (case side3 => exact WH.below HWH_.out HB.out); rintro e w7 ⟨rfl, hb⟩; refine ⟨_, rfl, ?_⟩; have n0_ := Aside0.mk (blk_below (g := gb304) (o := .cells #[.int .i64 a0_0, .int .i64 a0_1, .slice A0_2 l0_2.length c0_2] 24 (0, 0)) (by exact BK304.out) hb); have n1_ := Aside0.mk (below_step HB.out hb); clear BK304; clear HB; have BK304 := n0_; have HB := n1_; clear n0_ n1_; (try clear hb); (try clear hb2); (try clear hk); (try clear hi)))
 (try simp only [Act.put, List.setIfInBounds_toArray, List.set_cons_zero, List.set_cons_succ])
 go_cut [] (fun wc => ∃ (kq : Nat), Aside0 (ententelaw03_IdentBack.j0 kq a1 = some r) ∧ Aside0 (kq ≤ k) ∧ Aside0 (wc.heap[gb304]? = some (.cells #[.int .i64 a0_0, .int .i64 a0_1, (.slice A0_2 l0_2.length c0_2)] 24 (0, 0))) ∧ Aside0 (Below w.heap.size w wc))
 case first =>
  have H := HC4.out
  clear HC4
  by_cases c8 : t306 = 0
  ·rw [if_pos c8] at H
   have c8b0 : (t306 == 0) = true := beq_iff_eq.mpr c8
   have c8b1 : (t306 != 0) = false := bne_eq_false_iff_eq.mpr c8
   clear c8
   (first | rw [c8b0] | (simp only [i64_w, i32_w]; rw [c8b0]) | skip)
   replace H := Option.bind_eq_some_iff.mp H
   obtain ⟨⟨t307, t308, t309, t312⟩, A90, H⟩ := H
   replace H : (if t312 = 0 then ((ententeref03_Same.f k t307 t308 t309 a0_0 a0_1 l0_2).bind fun t314 => (if t314 = true then (ententelaw03_IdentBack.j0 k a1) else (none))) else (none)) = some r := H
   have A9 := Aside0.mk A90
   clear A90
   by_cases c10 : t312 = 0
   ·rw [if_pos c10] at H
    have c10b0 : (t312 == 0) = true := beq_iff_eq.mpr c10
    have c10b1 : (t312 != 0) = false := bne_eq_false_iff_eq.mpr c10
    clear c10
    replace H := Option.bind_eq_some_iff.mp H
    obtain ⟨t314, A110, H⟩ := H
    replace H : (if t314 = true then (ententelaw03_IdentBack.j0 k a1) else (none)) = some r := H
    have A11 := Aside0.mk A110
    clear A110
    by_cases c12 : t314 = true
    ·subst c12
     have H1 : (ententelaw03_IdentBack.j0 k a1) = some r := by rw [if_pos rfl] at H; exact H
     clear H
     have H := H1
     clear H1
     have H' := Aside0.mk H
     clear H
     go_wp2_with (first | ((with_reducible refine gate_callee (f := 23) rfl ?_); refine goesL_ (some 22) rfl rfl Tryd.func23 (by kernel_rfl) rfl #[.string t305] rfl (by (try simp only [List.map_toArray, List.map_cons, List.map_nil]); first | done | rfl | (simp only [List.length_drop, List.length_take]; rfl)) ?_; (with_reducible refine (ident_Parse.calls k t305 t307 t308 t309 t312 _ ?side1 A9.out).mono ?_); (case side1 => exact WH.below HWH_.out HB.out); rintro e w13 ⟨v310, rfl, ho0, hb⟩; refine ⟨_, rfl, ?_⟩; have n0_ := Aside0.mk (Kd.R_lower ho0 (below_size HB.out)); have n1_ := Aside0.mk (blk_below (g := gb304) (o := .cells #[.int .i64 a0_0, .int .i64 a0_1, .slice A0_2 l0_2.length c0_2] 24 (0, 0)) (by exact BK304.out) hb); have n2_ := Aside0.mk (below_step HB.out hb); clear BK304; clear HB; have HO311 := n0_; have BK304 := n1_; have HB := n2_; clear n0_ n1_ n2_; (try clear hb); (try clear hb2); (try clear hk); (try clear hi); (try clear ho0)) | ((with_reducible refine gate_dst (N := 7) rfl ?_); refine box_event ?hg (N := 7) ?hd (cs := #[.int .i64 0, .int .i64 0, .slice none 0 0]) (t := 24) ?hr ?_; (case hd => rfl); (case hg => rfl); (case hr => first | (go_simp; done) | (go_simp; rfl)); intro gb313 hg w14 hbox hb; have n0_ := Aside0.mk (Kd.R_below (by exact HO311.out) hb); have n1_ := Aside0.mk (blk_below (g := gb304) (o := .cells #[.int .i64 a0_0, .int .i64 a0_1, .slice A0_2 l0_2.length c0_2] 24 (0, 0)) (by exact BK304.out) hb); have n2_ := Aside0.mk (below_step HB.out hb); have n3_ := Aside0.mk (hbox); have n4_ := Aside0.mk ((by rw [hg]; exact (below_size HB.out) : w.heap.size ≤ gb313)); have n5_ := Aside0.mk ((by rw [hg]; exact (below_size HB.out) : w.heap.size ≤ gb313)); have n6_ := Aside0.mk ((by rw [hg]; exact Nat.ne_of_lt (blk_lt (g := gb304) (o := .cells #[.int .i64 a0_0, .int .i64 a0_1, .slice A0_2 l0_2.length c0_2] 24 (0, 0)) (by exact BK304.out)) : gb304 ≠ gb313)); have n7_ := Aside0.mk ((by rw [hg]; exact Nat.ne_of_gt (blk_lt (g := gb304) (o := .cells #[.int .i64 a0_0, .int .i64 a0_1, .slice A0_2 l0_2.length c0_2] 24 (0, 0)) (by exact BK304.out)) : gb313 ≠ gb304)); clear HO311; clear BK304; clear HB; have HO311 := n0_; have BK304 := n1_; have HB := n2_; have BK313 := n3_; have GW313 := n4_; have GE313 := n5_; have NB304_313 := n6_; have NB313_304 := n7_; clear n0_ n1_ n2_ n3_ n4_ n5_ n6_ n7_; clear hb hbox hg; have hnb15 := NB313_304.out; have hnc15 := NB304_313.out; have hcz16_0 : w14.cell? ⟨gb313, 0, none⟩ = some (.int .i64 0) := (blk_cell BK313.out 0).trans rfl; have hcz16_1 : w14.cell? ⟨gb313, 1, none⟩ = some (.int .i64 0) := (blk_cell BK313.out 1).trans rfl; have hcz16_2 : w14.cell? ⟨gb313, 2, none⟩ = some (.slice none 0 0) := (blk_cell BK313.out 2).trans rfl; have hfz16_0 := blk_frozen BK313.out 0; have hfz16_1 := blk_frozen BK313.out 1; have hfz16_2 := blk_frozen BK313.out 2; obtain ⟨Ao17, co17, eo17⟩ := Kd.R_slice HO311.out; subst eo17; have hcz18_0 : w14.cell? ⟨gb304, 0, none⟩ = some (.int .i64 a0_0) := (blk_cell BK304.out 0).trans rfl; have hcz18_1 : w14.cell? ⟨gb304, 1, none⟩ = some (.int .i64 a0_1) := (blk_cell BK304.out 1).trans rfl; have hcz18_2 : w14.cell? ⟨gb304, 2, none⟩ = some (.slice A0_2 l0_2.length c0_2) := (blk_cell BK304.out 2).trans rfl; have hfz18_0 := blk_frozen BK304.out 0; have hfz18_1 := blk_frozen BK304.out 1; have hfz18_2 := blk_frozen BK304.out 2) | (go_at_call 16; (with_reducible refine (ententeref03_Same.calls k t307 t308 _ _ t309 a0_0 a0_1 _ _ l0_2 true _ ?side1 ?side2 ?side3 ?side4 A11.out).mono ?_); (case side1 => refine (Kd.R_reads' (e := 55) (base := w.heap.size) (ok := fun k_ => True) (n := t309.length) (c := co17) ?_).2.2; exact (by exact (Kd.R_mono (Kd.R_far (p := ⟨gb313, 2, none⟩) (Kd.R_far (p := ⟨gb313, 1, none⟩) (Kd.R_far (p := ⟨gb313, 0, none⟩) (Kd.R_types HO311.out BK313.out (by decide)) (fun _ hk => hk.2) (.int .i64 t307)) (fun _ hk => hk.2) (.int .i64 t308)) (fun _ hk => hk.2) (.slice Ao17 t309.length co17)) (fun _ h_ => h_.1)))); (case side2 => exact (Kd.R_reads' HO311.out).2.1); (case side3 => exact Kd.C_below HR0_2.out (by repeat (first | (with_reducible first | exact HB.out | apply below_alloc | apply pw_below_drewN | apply below_drew1 | refine below_set ?_ GE304.out | refine below_set ?_ GE313.out) | exact HB.out))); (case side4 => exact HC0_2.out); rintro e w19 ⟨rfl, hb⟩; have n0_ := Aside0.mk (Kd.R_below (by exact (Kd.R_mono (Kd.R_far (p := ⟨gb313, 2, none⟩) (Kd.R_far (p := ⟨gb313, 1, none⟩) (Kd.R_far (p := ⟨gb313, 0, none⟩) (Kd.R_types HO311.out BK313.out (by decide)) (fun _ hk => hk.2) (.int .i64 t307)) (fun _ hk => hk.2) (.int .i64 t308)) (fun _ hk => hk.2) (.slice Ao17 t309.length co17)) (fun _ h_ => h_.1))) hb); have n1_ := Aside0.mk (blk_below (g := gb304) (o := .cells #[.int .i64 a0_0, .int .i64 a0_1, .slice A0_2 l0_2.length c0_2] 24 (0, 0)) (by refine blk_far ?_ NB304_313.out _; refine blk_far ?_ NB304_313.out _; refine blk_far ?_ NB304_313.out _; exact BK304.out) hb); have n2_ := Aside0.mk (blk_below (g := gb313) (o := .cells #[.int .i64 t307, .int .i64 t308, .slice Ao17 t309.length co17] 24 (0, 0)) (by refine blk_put (cs := #[.int .i64 t307, .int .i64 t308, .slice none 0 0]) ?_ 2 _ rfl; refine blk_put (cs := #[.int .i64 t307, .int .i64 0, .slice none 0 0]) ?_ 1 _ rfl; refine blk_put (cs := #[.int .i64 0, .int .i64 0, .slice none 0 0]) ?_ 0 _ rfl; exact BK313.out) hb); have n3_ := Aside0.mk (below_step (by repeat (first | (with_reducible first | exact HB.out | apply below_alloc | apply pw_below_drewN | apply below_drew1 | refine below_set ?_ GE304.out | refine below_set ?_ GE313.out) | exact HB.out)) hb); clear HO311; clear BK304; clear BK313; clear HB; have HO311 := n0_; have BK304 := n1_; have BK313 := n2_; have HB := n3_; clear n0_ n1_ n2_ n3_; (try clear hb); (try clear hb2); (try clear hk); (try clear hi)))
     go_meet
     case rel => exact ⟨_, H', ⟨by first | omega | exact Nat.le_refl _⟩, ⟨by exact BK304.out⟩, ⟨HB.out⟩⟩
    ·replace c12 := Bool.eq_false_iff.mpr c12
     subst c12
     have H1 : (none) = some r := by rw [if_neg (show ¬ (false = true) by decide)] at H; exact H
     clear H
     have H := H1
     clear H1
     exact absurd H (by simp)
   ·rw [if_neg c10] at H
    exact absurd H (by simp)
  ·rw [if_neg c8] at H
   have c8b0 : (t306 == 0) = false := beq_eq_false_iff_ne.mpr c8
   have c8b1 : (t306 != 0) = true := bne_iff_ne.mpr c8
   (first | rw [c8b0] | (simp only [i64_w, i32_w]; rw [c8b0]) | skip)
   have H' := Aside0.mk H
   clear H
   go_wp2
   go_meet
   case rel => exact ⟨_, H', ⟨by first | omega | exact Nat.le_refl _⟩, ⟨by exact BK304.out⟩, ⟨HB.out⟩⟩
 case rest =>
  clear HC4
  try clear c1
  try clear c2
  try clear p2
  try clear c6
  try clear c8
  try clear c8b0
  try clear c8b1
  try clear c10
  try clear c10b0
  try clear c10b1
  try clear c12
  try clear c15
  try clear hcz16_0
  try clear hcz16_1
  try clear hcz16_2
  try clear hcz18_0
  try clear hcz18_1
  try clear hcz18_2
  try clear hcz6_0
  try clear hcz6_1
  try clear hcz6_2
  try clear hfz16_0
  try clear hfz16_1
  try clear hfz16_2
  try clear hfz18_0
  try clear hfz18_1
  try clear hfz18_2
  try clear hfz6_0
  try clear hfz6_1
  try clear hfz6_2
  obtain ⟨kq, HA, HJ3, BK304, HB⟩ := hcut
  cases kq with
  | zero => exact absurd HA.out (by simp [ententelaw03_IdentBack.j0])
  | succ kj3 =>
   have H := HA.out
   clear HA
   simp only [ententelaw03_IdentBack.j0] at H
   replace H := Option.bind_eq_some_iff.mp H
   obtain ⟨⟨t315, t316, t317, t320⟩, A200, H⟩ := H
   replace H : (if t320 = 0 then ((ident_Show.f kj3 t315 t316 t317).bind fun bt322 => (if bt322.1.toList = a1.toList then (if bt322.2 = 0 then ((ident_Check.f t315 t316 t317).bind fun t324 => (if t324 = 0 then ((ententelaw03_awake.f kj3).bind fun t325 => (some t325)) else (none))) else (none)) else (none))) else ((ententeref03_Same.f kj3 t315 t316 t317 0 0 ([] : List (S55))).bind fun t326 => (if t326 = true then (if t320 = 30 then ((ententelaw03_awake.f kj3).bind fun t327 => (some t327)) else (none)) else (none)))) = some r := H
   have A20 := Aside0.mk A200
   clear A200
   by_cases c21 : t320 = 0
   ·rw [if_pos c21] at H
    have c21b0 : (t320 == 0) = true := beq_iff_eq.mpr c21
    have c21b1 : (t320 != 0) = false := bne_eq_false_iff_eq.mpr c21
    clear c21
    replace H := Option.bind_eq_some_iff.mp H
    obtain ⟨⟨t322, t323⟩, A220, H⟩ := H
    replace H : (if t322.toList = a1.toList then (if t323 = 0 then ((ident_Check.f t315 t316 t317).bind fun t324 => (if t324 = 0 then ((ententelaw03_awake.f kj3).bind fun t325 => (some t325)) else (none))) else (none)) else (none)) = some r := H
    have A22 := Aside0.mk A220
    clear A220
    by_cases c23 : t322.toList = a1.toList
    ·rw [if_pos c23] at H
     have c23b0 : (t322.toList == a1.toList) = true := beq_iff_eq.mpr c23
     have c23b1 : (t322.toList != a1.toList) = false := bne_eq_false_iff_eq.mpr c23
     clear c23
     by_cases c24 : t323 = 0
     ·rw [if_pos c24] at H
      have c24b0 : (t323 == 0) = true := beq_iff_eq.mpr c24
      have c24b1 : (t323 != 0) = false := bne_eq_false_iff_eq.mpr c24
      clear c24
      replace H := Option.bind_eq_some_iff.mp H
      obtain ⟨t324, A250, H⟩ := H
      replace H : (if t324 = 0 then ((ententelaw03_awake.f kj3).bind fun t325 => (some t325)) else (none)) = some r := H
      have A25 := Aside0.mk A250
      clear A250
      by_cases c26 : t324 = 0
      ·rw [if_pos c26] at H
       have c26b0 : (t324 == 0) = true := beq_iff_eq.mpr c26
       have c26b1 : (t324 != 0) = false := bne_eq_false_iff_eq.mpr c26
       clear c26
       replace H := Option.bind_eq_some_iff.mp H
       obtain ⟨t325, A270, H⟩ := H
       replace H : (some t325) = some r := H
       have A27 := Aside0.mk A270
       clear A270
       obtain rfl := Option.some.inj H
       go_wp2_with (first | ((with_reducible refine gate_callee (f := 23) rfl ?_); refine goesL_ (some 35) rfl rfl Tryd.func23 (by kernel_rfl) rfl #[.string a1] rfl (by (try simp only [List.map_toArray, List.map_cons, List.map_nil]); first | done | rfl | (simp only [List.length_drop, List.length_take]; rfl)) ?_; (with_reducible refine (ident_Parse.calls kj3 a1 t315 t316 t317 t320 _ ?side1 A20.out).mono ?_); (case side1 => exact WH.below HWH_.out HB.out); rintro e w28 ⟨v318, rfl, ho0, hb⟩; refine ⟨_, rfl, ?_⟩; have n0_ := Aside0.mk (Kd.R_lower ho0 (below_size HB.out)); have n1_ := Aside0.mk (blk_below (g := gb304) (o := .cells #[.int .i64 a0_0, .int .i64 a0_1, .slice A0_2 l0_2.length c0_2] 24 (0, 0)) (by exact BK304.out) hb); have n2_ := Aside0.mk (below_step HB.out hb); clear BK304; clear HB; have HO319 := n0_; have BK304 := n1_; have HB := n2_; clear n0_ n1_ n2_; (try clear hb); (try clear hb2); (try clear hk); (try clear hi); (try clear ho0)) | ((with_reducible refine gate_dst (N := 9) rfl ?_); refine box_event ?hg (N := 9) ?hd (cs := #[.int .i64 0, .int .i64 0, .slice none 0 0]) (t := 24) ?hr ?_; (case hd => rfl); (case hg => rfl); (case hr => first | (go_simp; done) | (go_simp; rfl)); intro gb321 hg w29 hbox hb; have n0_ := Aside0.mk (Kd.R_below (by exact HO319.out) hb); have n1_ := Aside0.mk (blk_below (g := gb304) (o := .cells #[.int .i64 a0_0, .int .i64 a0_1, .slice A0_2 l0_2.length c0_2] 24 (0, 0)) (by exact BK304.out) hb); have n2_ := Aside0.mk (below_step HB.out hb); have n3_ := Aside0.mk (hbox); have n4_ := Aside0.mk ((by rw [hg]; exact (below_size HB.out) : w.heap.size ≤ gb321)); have n5_ := Aside0.mk ((by rw [hg]; exact (below_size HB.out) : w.heap.size ≤ gb321)); have n6_ := Aside0.mk ((by rw [hg]; exact Nat.ne_of_lt (blk_lt (g := gb304) (o := .cells #[.int .i64 a0_0, .int .i64 a0_1, .slice A0_2 l0_2.length c0_2] 24 (0, 0)) (by exact BK304.out)) : gb304 ≠ gb321)); have n7_ := Aside0.mk ((by rw [hg]; exact Nat.ne_of_gt (blk_lt (g := gb304) (o := .cells #[.int .i64 a0_0, .int .i64 a0_1, .slice A0_2 l0_2.length c0_2] 24 (0, 0)) (by exact BK304.out)) : gb321 ≠ gb304)); clear HO319; clear BK304; clear HB; have HO319 := n0_; have BK304 := n1_; have HB := n2_; have BK321 := n3_; have GW321 := n4_; have GE321 := n5_; have NB304_321 := n6_; have NB321_304 := n7_; clear n0_ n1_ n2_ n3_ n4_ n5_ n6_ n7_; clear hb hbox hg; have hnb30 := NB321_304.out; have hnc30 := NB304_321.out; have hcz31_0 : w29.cell? ⟨gb321, 0, none⟩ = some (.int .i64 0) := (blk_cell BK321.out 0).trans rfl; have hcz31_1 : w29.cell? ⟨gb321, 1, none⟩ = some (.int .i64 0) := (blk_cell BK321.out 1).trans rfl; have hcz31_2 : w29.cell? ⟨gb321, 2, none⟩ = some (.slice none 0 0) := (blk_cell BK321.out 2).trans rfl; have hfz31_0 := blk_frozen BK321.out 0; have hfz31_1 := blk_frozen BK321.out 1; have hfz31_2 := blk_frozen BK321.out 2; obtain ⟨Ao32, co32, eo32⟩ := Kd.R_slice HO319.out; subst eo32) | ((with_reducible refine gate_callee (f := 21) rfl ?_); refine goesL_ (some 52) rfl rfl Tryd.func21 (by kernel_rfl) rfl #[.agg #[.int .i64 t315, .int .i64 t316, .slice Ao32 t317.length co32]] rfl (by (try simp only [List.map_toArray, List.map_cons, List.map_nil]); first | done | rfl | (simp only [List.length_drop, List.length_take]; rfl)) ?_; (with_reducible refine (ident_Show.calls kj3 t315 t316 _ _ t317 t322 t323 _ ?side1 ?side2 ?side3 A22.out).mono ?_); (case side1 => refine (Kd.R_reads' (e := 55) (base := w.heap.size) (ok := fun k_ => True) (n := t317.length) (c := co32) ?_).2.2; exact (by exact (Kd.R_mono (Kd.R_far (p := ⟨gb321, 2, none⟩) (Kd.R_far (p := ⟨gb321, 1, none⟩) (Kd.R_far (p := ⟨gb321, 0, none⟩) (Kd.R_types HO319.out BK321.out (by decide)) (fun _ hk => hk.2) (.int .i64 t315)) (fun _ hk => hk.2) (.int .i64 t316)) (fun _ hk => hk.2) (.slice Ao32 t317.length co32)) (fun _ h_ => h_.1)))); (case side2 => exact (Kd.R_reads' HO319.out).2.1); (case side3 => exact WH.below HWH_.out (by repeat (first | (with_reducible first | exact HB.out | apply below_alloc | apply pw_below_drewN | apply below_drew1 | refine below_set ?_ GE304.out | refine below_set ?_ GE321.out) | exact HB.out))); rintro e w33 ⟨rfl, hb⟩; refine ⟨_, rfl, ?_⟩; have n0_ := Aside0.mk (Kd.R_below (by exact (Kd.R_mono (Kd.R_far (p := ⟨gb321, 2, none⟩) (Kd.R_far (p := ⟨gb321, 1, none⟩) (Kd.R_far (p := ⟨gb321, 0, none⟩) (Kd.R_types HO319.out BK321.out (by decide)) (fun _ hk => hk.2) (.int .i64 t315)) (fun _ hk => hk.2) (.int .i64 t316)) (fun _ hk => hk.2) (.slice Ao32 t317.length co32)) (fun _ h_ => h_.1))) hb); have n1_ := Aside0.mk (blk_below (g := gb304) (o := .cells #[.int .i64 a0_0, .int .i64 a0_1, .slice A0_2 l0_2.length c0_2] 24 (0, 0)) (by refine blk_far ?_ NB304_321.out _; refine blk_far ?_ NB304_321.out _; refine blk_far ?_ NB304_321.out _; exact BK304.out) hb); have n2_ := Aside0.mk (blk_below (g := gb321) (o := .cells #[.int .i64 t315, .int .i64 t316, .slice Ao32 t317.length co32] 24 (0, 0)) (by refine blk_put (cs := #[.int .i64 t315, .int .i64 t316, .slice none 0 0]) ?_ 2 _ rfl; refine blk_put (cs := #[.int .i64 t315, .int .i64 0, .slice none 0 0]) ?_ 1 _ rfl; refine blk_put (cs := #[.int .i64 0, .int .i64 0, .slice none 0 0]) ?_ 0 _ rfl; exact BK321.out) hb); have n3_ := Aside0.mk (below_step (by repeat (first | (with_reducible first | exact HB.out | apply below_alloc | apply pw_below_drewN | apply below_drew1 | refine below_set ?_ GE304.out | refine below_set ?_ GE321.out) | exact HB.out)) hb); clear HO319; clear BK304; clear BK321; clear HB; have HO319 := n0_; have BK304 := n1_; have BK321 := n2_; have HB := n3_; clear n0_ n1_ n2_ n3_; (try clear hb); (try clear hb2); (try clear hk); (try clear hi); have hcz34_0 : w33.cell? ⟨gb321, 0, none⟩ = some (.int .i64 t315) := (blk_cell BK321.out 0).trans rfl; have hcz34_1 : w33.cell? ⟨gb321, 1, none⟩ = some (.int .i64 t316) := (blk_cell BK321.out 1).trans rfl; have hcz34_2 : w33.cell? ⟨gb321, 2, none⟩ = some (.slice Ao32 t317.length co32) := (blk_cell BK321.out 2).trans rfl; have hfz34_0 := blk_frozen BK321.out 0; have hfz34_1 := blk_frozen BK321.out 1; have hfz34_2 := blk_frozen BK321.out 2) | (go_at_call 25; (with_reducible refine (ident_Check.calls t315 t316 _ _ t317 t324 _ ?side1 ?side2 A25.out).mono ?_); (case side1 => exact (Kd.R_reads' HO319.out).2.2); (case side2 => exact (Kd.R_reads' HO319.out).2.1); rintro e w35 ⟨rfl, hb⟩; have n0_ := Aside0.mk (Kd.R_below (by exact HO319.out) hb); have n1_ := Aside0.mk (blk_below (g := gb304) (o := .cells #[.int .i64 a0_0, .int .i64 a0_1, .slice A0_2 l0_2.length c0_2] 24 (0, 0)) (by exact BK304.out) hb); have n2_ := Aside0.mk (blk_below (g := gb321) (o := .cells #[.int .i64 t315, .int .i64 t316, .slice Ao32 t317.length co32] 24 (0, 0)) (by exact BK321.out) hb); have n3_ := Aside0.mk (below_step HB.out hb); clear HO319; clear BK304; clear BK321; clear HB; have HO319 := n0_; have BK304 := n1_; have BK321 := n2_; have HB := n3_; clear n0_ n1_ n2_ n3_; (try clear hb); (try clear hb2); (try clear hk); (try clear hi)) | (go_at_call 11; (with_reducible refine (ententelaw03_awake.calls kj3  t325 _ ?side1 A27.out).mono ?_); (case side1 => exact WH.below HWH_.out HB.out); rintro e w36 ⟨rfl, hb⟩; have n0_ := Aside0.mk (Kd.R_below (by exact HO319.out) hb); have n1_ := Aside0.mk (blk_below (g := gb304) (o := .cells #[.int .i64 a0_0, .int .i64 a0_1, .slice A0_2 l0_2.length c0_2] 24 (0, 0)) (by exact BK304.out) hb); have n2_ := Aside0.mk (blk_below (g := gb321) (o := .cells #[.int .i64 t315, .int .i64 t316, .slice Ao32 t317.length co32] 24 (0, 0)) (by exact BK321.out) hb); have n3_ := Aside0.mk (below_step HB.out hb); clear HO319; clear BK304; clear BK321; clear HB; have HO319 := n0_; have BK304 := n1_; have BK321 := n2_; have HB := n3_; clear n0_ n1_ n2_ n3_; (try clear hb); (try clear hb2); (try clear hk); (try clear hi)))
       go_ret
       exact ⟨by first | rfl | (simp [errW_none, errW_some] <;> rfl) | (simp [*, errW_none, errW_some] <;> rfl), HB.out⟩
      ·rw [if_neg c26] at H
       exact absurd H (by simp)
     ·rw [if_neg c24] at H
      exact absurd H (by simp)
    ·rw [if_neg c23] at H
     exact absurd H (by simp)
   ·rw [if_neg c21] at H
    have c21b0 : (t320 == 0) = false := beq_eq_false_iff_ne.mpr c21
    have c21b1 : (t320 != 0) = true := bne_iff_ne.mpr c21
    replace H := Option.bind_eq_some_iff.mp H
    obtain ⟨t326, A370, H⟩ := H
    replace H : (if t326 = true then (if t320 = 30 then ((ententelaw03_awake.f kj3).bind fun t327 => (some t327)) else (none)) else (none)) = some r := H
    have A37 := Aside0.mk A370
    clear A370
    by_cases c38 : t326 = true
    ·subst c38
     have H1 : (if t320 = 30 then ((ententelaw03_awake.f kj3).bind fun t327 => (some t327)) else (none)) = some r := by rw [if_pos rfl] at H; exact H
     clear H
     have H := H1
     clear H1
     by_cases c39 : t320 = 30
     ·rw [if_pos c39] at H
      have c39b0 : (t320 == 30) = true := beq_iff_eq.mpr c39
      have c39b1 : (t320 != 30) = false := bne_eq_false_iff_eq.mpr c39
      clear c39
      replace H := Option.bind_eq_some_iff.mp H
      obtain ⟨t327, A400, H⟩ := H
      replace H : (some t327) = some r := H
      have A40 := Aside0.mk A400
      clear A400
      obtain rfl := Option.some.inj H
      go_wp2_with (first | ((with_reducible refine gate_callee (f := 23) rfl ?_); refine goesL_ (some 35) rfl rfl Tryd.func23 (by kernel_rfl) rfl #[.string a1] rfl (by (try simp only [List.map_toArray, List.map_cons, List.map_nil]); first | done | rfl | (simp only [List.length_drop, List.length_take]; rfl)) ?_; (with_reducible refine (ident_Parse.calls kj3 a1 t315 t316 t317 t320 _ ?side1 A20.out).mono ?_); (case side1 => exact WH.below HWH_.out HB.out); rintro e w41 ⟨v318, rfl, ho0, hb⟩; refine ⟨_, rfl, ?_⟩; have n0_ := Aside0.mk (Kd.R_lower ho0 (below_size HB.out)); have n1_ := Aside0.mk (blk_below (g := gb304) (o := .cells #[.int .i64 a0_0, .int .i64 a0_1, .slice A0_2 l0_2.length c0_2] 24 (0, 0)) (by exact BK304.out) hb); have n2_ := Aside0.mk (below_step HB.out hb); clear BK304; clear HB; have HO319 := n0_; have BK304 := n1_; have HB := n2_; clear n0_ n1_ n2_; (try clear hb); (try clear hb2); (try clear hk); (try clear hi); (try clear ho0)) | ((with_reducible refine gate_dst (N := 9) rfl ?_); refine box_event ?hg (N := 9) ?hd (cs := #[.int .i64 0, .int .i64 0, .slice none 0 0]) (t := 24) ?hr ?_; (case hd => rfl); (case hg => rfl); (case hr => first | (go_simp; done) | (go_simp; rfl)); intro gb321 hg w42 hbox hb; have n0_ := Aside0.mk (Kd.R_below (by exact HO319.out) hb); have n1_ := Aside0.mk (blk_below (g := gb304) (o := .cells #[.int .i64 a0_0, .int .i64 a0_1, .slice A0_2 l0_2.length c0_2] 24 (0, 0)) (by exact BK304.out) hb); have n2_ := Aside0.mk (below_step HB.out hb); have n3_ := Aside0.mk (hbox); have n4_ := Aside0.mk ((by rw [hg]; exact (below_size HB.out) : w.heap.size ≤ gb321)); have n5_ := Aside0.mk ((by rw [hg]; exact (below_size HB.out) : w.heap.size ≤ gb321)); have n6_ := Aside0.mk ((by rw [hg]; exact Nat.ne_of_lt (blk_lt (g := gb304) (o := .cells #[.int .i64 a0_0, .int .i64 a0_1, .slice A0_2 l0_2.length c0_2] 24 (0, 0)) (by exact BK304.out)) : gb304 ≠ gb321)); have n7_ := Aside0.mk ((by rw [hg]; exact Nat.ne_of_gt (blk_lt (g := gb304) (o := .cells #[.int .i64 a0_0, .int .i64 a0_1, .slice A0_2 l0_2.length c0_2] 24 (0, 0)) (by exact BK304.out)) : gb321 ≠ gb304)); clear HO319; clear BK304; clear HB; have HO319 := n0_; have BK304 := n1_; have HB := n2_; have BK321 := n3_; have GW321 := n4_; have GE321 := n5_; have NB304_321 := n6_; have NB321_304 := n7_; clear n0_ n1_ n2_ n3_ n4_ n5_ n6_ n7_; clear hb hbox hg; have hnb43 := NB321_304.out; have hnc43 := NB304_321.out; have hcz44_0 : w42.cell? ⟨gb321, 0, none⟩ = some (.int .i64 0) := (blk_cell BK321.out 0).trans rfl; have hcz44_1 : w42.cell? ⟨gb321, 1, none⟩ = some (.int .i64 0) := (blk_cell BK321.out 1).trans rfl; have hcz44_2 : w42.cell? ⟨gb321, 2, none⟩ = some (.slice none 0 0) := (blk_cell BK321.out 2).trans rfl; have hfz44_0 := blk_frozen BK321.out 0; have hfz44_1 := blk_frozen BK321.out 1; have hfz44_2 := blk_frozen BK321.out 2; obtain ⟨Ao45, co45, eo45⟩ := Kd.R_slice HO319.out; subst eo45) | ((with_reducible refine gate_callee (f := 16) rfl ?_); refine goesL_ (some 42) rfl rfl Tryd.func16 (by kernel_rfl) rfl #[.agg #[.int .i64 t315, .int .i64 t316, .slice Ao45 t317.length co45], .agg #[.int .i64 0, .int .i64 0, .slice none 0 0]] rfl (by (try simp only [List.map_toArray, List.map_cons, List.map_nil]); first | done | rfl | (simp only [List.length_drop, List.length_take]; rfl)) ?_; (refine (ententeref03_Same.calls kj3 t315 t316 _ _ t317 0 0 _ _ ([] : List (S55)) true _ ?side1 ?side2 ?side3 ?side4 A37.out).mono ?_); (case side1 => refine (Kd.R_reads' (e := 55) (base := w.heap.size) (ok := fun k_ => True) (n := t317.length) (c := co45) ?_).2.2; exact (by exact (Kd.R_mono (Kd.R_far (p := ⟨gb321, 2, none⟩) (Kd.R_far (p := ⟨gb321, 1, none⟩) (Kd.R_far (p := ⟨gb321, 0, none⟩) (Kd.R_types HO319.out BK321.out (by decide)) (fun _ hk => hk.2) (.int .i64 t315)) (fun _ hk => hk.2) (.int .i64 t316)) (fun _ hk => hk.2) (.slice Ao45 t317.length co45)) (fun _ h_ => h_.1)))); (case side2 => exact (Kd.R_reads' HO319.out).2.1); (case side3 => exact Kd.C_nil _ _); (case side4 => exact Nat.le_refl _); rintro e w46 ⟨rfl, hb⟩; refine ⟨_, rfl, ?_⟩; have n0_ := Aside0.mk (Kd.R_below (by exact (Kd.R_mono (Kd.R_far (p := ⟨gb321, 2, none⟩) (Kd.R_far (p := ⟨gb321, 1, none⟩) (Kd.R_far (p := ⟨gb321, 0, none⟩) (Kd.R_types HO319.out BK321.out (by decide)) (fun _ hk => hk.2) (.int .i64 t315)) (fun _ hk => hk.2) (.int .i64 t316)) (fun _ hk => hk.2) (.slice Ao45 t317.length co45)) (fun _ h_ => h_.1))) hb); have n1_ := Aside0.mk (blk_below (g := gb304) (o := .cells #[.int .i64 a0_0, .int .i64 a0_1, .slice A0_2 l0_2.length c0_2] 24 (0, 0)) (by refine blk_far ?_ NB304_321.out _; refine blk_far ?_ NB304_321.out _; refine blk_far ?_ NB304_321.out _; exact BK304.out) hb); have n2_ := Aside0.mk (blk_below (g := gb321) (o := .cells #[.int .i64 t315, .int .i64 t316, .slice Ao45 t317.length co45] 24 (0, 0)) (by refine blk_put (cs := #[.int .i64 t315, .int .i64 t316, .slice none 0 0]) ?_ 2 _ rfl; refine blk_put (cs := #[.int .i64 t315, .int .i64 0, .slice none 0 0]) ?_ 1 _ rfl; refine blk_put (cs := #[.int .i64 0, .int .i64 0, .slice none 0 0]) ?_ 0 _ rfl; exact BK321.out) hb); have n3_ := Aside0.mk (below_step (by repeat (first | (with_reducible first | exact HB.out | apply below_alloc | apply pw_below_drewN | apply below_drew1 | refine below_set ?_ GE304.out | refine below_set ?_ GE321.out) | exact HB.out)) hb); clear HO319; clear BK304; clear BK321; clear HB; have HO319 := n0_; have BK304 := n1_; have BK321 := n2_; have HB := n3_; clear n0_ n1_ n2_ n3_; (try clear hb); (try clear hb2); (try clear hk); (try clear hi)) | (go_at_call 11; (with_reducible refine (ententelaw03_awake.calls kj3  t327 _ ?side1 A40.out).mono ?_); (case side1 => exact WH.below HWH_.out HB.out); rintro e w47 ⟨rfl, hb⟩; have n0_ := Aside0.mk (Kd.R_below (by exact HO319.out) hb); have n1_ := Aside0.mk (blk_below (g := gb304) (o := .cells #[.int .i64 a0_0, .int .i64 a0_1, .slice A0_2 l0_2.length c0_2] 24 (0, 0)) (by exact BK304.out) hb); have n2_ := Aside0.mk (blk_below (g := gb321) (o := .cells #[.int .i64 t315, .int .i64 t316, .slice Ao45 t317.length co45] 24 (0, 0)) (by exact BK321.out) hb); have n3_ := Aside0.mk (below_step HB.out hb); clear HO319; clear BK304; clear BK321; clear HB; have HO319 := n0_; have BK304 := n1_; have BK321 := n2_; have HB := n3_; clear n0_ n1_ n2_ n3_; (try clear hb); (try clear hb2); (try clear hk); (try clear hi)))
      go_ret
      exact ⟨by first | rfl | (simp [errW_none, errW_some] <;> rfl) | (simp [*, errW_none, errW_some] <;> rfl), HB.out⟩
     ·rw [if_neg c39] at H
      exact absurd H (by simp)
    ·replace c38 := Bool.eq_false_iff.mpr c38
     subst c38
     have H1 : (none) = some r := by rw [if_neg (show ¬ (false = true) by decide)] at H; exact H
     clear H
     have H := H1
     clear H1
     exact absurd H (by simp)

end Go.Proofs.YtnlljacklhgfgaaDoor.PI

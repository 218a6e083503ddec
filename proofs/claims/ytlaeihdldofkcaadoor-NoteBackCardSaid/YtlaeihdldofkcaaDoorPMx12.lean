/- The machine side of this seat's laws: plain functions, and proofs that the calls do what they say; written by a program of this session over the translation; no conditions beyond those typed. -/
import Derived.Test.YtlaeihdldofkcaaDoorPMx0
import Derived.Test.YtlaeihdldofkcaaDoorPMx1
import Derived.Test.YtlaeihdldofkcaaDoorPMx3
import Derived.Test.YtlaeihdldofkcaaDoorPMx4
import Derived.Test.YtlaeihdldofkcaaDoorPMx8
import Derived.Test.YtlaeihdldofkcaaDoorPMx10
import Derived.Test.YtlaeihdldofkcaaDoorPMx11
namespace Go.Proofs.YtlaeihdldofkcaaDoor.PN
open Go.RowKit Go.Proofs.YtlaeihdldofkcaaDoorW.PrintWords Go.Proofs.YtlaeihdldofkcaaDoorW.PrintLast Go.Proofs.YtlaeihdldofkcaaDoorW.PrintMore
attribute [local go_sem] max2_int min2_int max_two min_two max_three min_three max_four min_four   -- for this text's walks alone
set_option linter.unusedVariables false
set_option linter.unusedSimpArgs false

/-! ### ententelaw13_NoteBack: function 4 -/
mutual
def ententelaw13_NoteBack.j0 : Nat → ByteArray → Bool → Int → Int → Int → Int → Int → Int → Int → Int → Int → List (S50) → ByteArray → Int → Option (Bool)
 | 0, _, _, _, _, _, _, _, _, _, _, _, _, _, _ => none
 | k + 1, x1, x21, x383000, x383001, x383002, x383003, x383004, x383005, x383006, x383007, x383008, x383009, x383010, x383011 => if x21 = true then ((ententelaw13_awake.f k).bind fun t384 => (some t384)) else ((note_Encode.f k x383000 x383001 x383002 x383003 x383004 x383005 x383006 x383007 x383008 x383009 x383010 x383011).bind fun bt385 => (if bt385.2 = 0 then ((note_Decode.f k bt385.1).bind fun bt387 => (if bt387.2.2.2.2.2.2.2.2.2.2.2.2 = 0 then ((ententeref13_Same.f k bt387.1 bt387.2.1 bt387.2.2.1 bt387.2.2.2.1 bt387.2.2.2.2.1 bt387.2.2.2.2.2.1 bt387.2.2.2.2.2.2.1 bt387.2.2.2.2.2.2.2.1 bt387.2.2.2.2.2.2.2.2.1 bt387.2.2.2.2.2.2.2.2.2.1 bt387.2.2.2.2.2.2.2.2.2.2.1 bt387.2.2.2.2.2.2.2.2.2.2.2.1 x383000 x383001 x383002 x383003 x383004 x383005 x383006 x383007 x383008 x383009 x383010 x383011).bind fun t403 => (if t403 = true then ((note_Frame.f k bt387.1 bt387.2.1 bt387.2.2.1 bt387.2.2.2.1 bt387.2.2.2.2.1 bt387.2.2.2.2.2.1 bt387.2.2.2.2.2.2.1 bt387.2.2.2.2.2.2.2.1 bt387.2.2.2.2.2.2.2.2.1 bt387.2.2.2.2.2.2.2.2.2.1 bt387.2.2.2.2.2.2.2.2.2.2.1 bt387.2.2.2.2.2.2.2.2.2.2.2.1).bind fun t404 => (if t404 = 0 then (ententelaw13_NoteBack.j1 k x1) else (none))) else (none))) else (none))) else (ententelaw13_NoteBack.j1 k x1)))
def ententelaw13_NoteBack.j1 : Nat → ByteArray → Option (Bool)
 | 0, _ => none
 | k + 1, x1 => (note_Decode.f k x1).bind fun bt405 => (if bt405.2.2.2.2.2.2.2.2.2.2.2.2 = 0 then ((note_Encode.f k bt405.1 bt405.2.1 bt405.2.2.1 bt405.2.2.2.1 bt405.2.2.2.2.1 bt405.2.2.2.2.2.1 bt405.2.2.2.2.2.2.1 bt405.2.2.2.2.2.2.2.1 bt405.2.2.2.2.2.2.2.2.1 bt405.2.2.2.2.2.2.2.2.2.1 bt405.2.2.2.2.2.2.2.2.2.2.1 bt405.2.2.2.2.2.2.2.2.2.2.2.1).bind fun bt421 => (if bt421.1.toList = x1.toList then (if bt421.2 = 0 then ((ententelaw13_awake.f k).bind fun t423 => (some t423)) else (none)) else (none))) else ((ententeref13_Same.f k bt405.1 bt405.2.1 bt405.2.2.1 bt405.2.2.2.1 bt405.2.2.2.2.1 bt405.2.2.2.2.2.1 bt405.2.2.2.2.2.2.1 bt405.2.2.2.2.2.2.2.1 bt405.2.2.2.2.2.2.2.2.1 bt405.2.2.2.2.2.2.2.2.2.1 bt405.2.2.2.2.2.2.2.2.2.2.1 bt405.2.2.2.2.2.2.2.2.2.2.2.1 0 0 0 0 0 0 0 0 0 ([] : List (S50)) (⟨#[]⟩ : ByteArray) 0).bind fun t424 => (if t424 = true then ((ententelaw13_awake.f k).bind fun t425 => (some t425)) else (none))))
end
def ententelaw13_NoteBack.f (k : Nat) (a0_0 : Int) (a0_1 : Int) (a0_2 : Int) (a0_3 : Int) (a0_4 : Int) (a0_5 : Int) (a0_6 : Int) (a0_7 : Int) (a0_8 : Int) (l0_9 : List (S50)) (a0_10 : ByteArray) (a0_11 : Int) (a1 : ByteArray) : Option (Bool) := (ententelaw13_few.f a0_6 a0_7 a0_8 l0_9 a0_10 a0_11).bind fun t383 => (if t383 = true then (ententelaw13_NoteBack.j0 k a1 (decide ((a1.size : Int) > 40000)) a0_0 a0_1 a0_2 a0_3 a0_4 a0_5 a0_6 a0_7 a0_8 l0_9 a0_10 a0_11) else (ententelaw13_NoteBack.j0 k a1 true a0_0 a0_1 a0_2 a0_3 a0_4 a0_5 a0_6 a0_7 a0_8 l0_9 a0_10 a0_11))
theorem ententelaw13_NoteBack.mono_l : ∀ k, (∀ y0 y1 y2 y3 y4 y5 y6 y7 y8 y9 y10 y11 y12 y13, LeO (ententelaw13_NoteBack.j0 k y0 y1 y2 y3 y4 y5 y6 y7 y8 y9 y10 y11 y12 y13) (ententelaw13_NoteBack.j0 (k + 1) y0 y1 y2 y3 y4 y5 y6 y7 y8 y9 y10 y11 y12 y13)) ∧ (∀ y0, LeO (ententelaw13_NoteBack.j1 k y0) (ententelaw13_NoteBack.j1 (k + 1) y0))
 | 0 => ⟨fun _ _ _ _ _ _ _ _ _ _ _ _ _ _ r h => by simp [ententelaw13_NoteBack.j0] at h, fun _ r h => by simp [ententelaw13_NoteBack.j1] at h⟩
 | k + 1 => by
  obtain ⟨ih0, ih1⟩ := ententelaw13_NoteBack.mono_l k
  refine ⟨?_, ?_⟩
  ·intro y0 y1 y2 y3 y4 y5 y6 y7 y8 y9 y10 y11 y12 y13
   unfold ententelaw13_NoteBack.j0
   repeat' first
   | (with_reducible exact ih0 _ _ _ _ _ _ _ _ _ _ _ _ _ _)
   | (with_reducible exact ih1 _)
   | (with_reducible exact ententelaw13_awake.mono _)
   | (with_reducible exact ententeref13_Same.mono _ _ _ _ _ _ _ _ _ _ _ _ _ _ _ _ _ _ _ _ _ _ _ _ _)
   | (with_reducible exact note_Decode.mono _ _)
   | (with_reducible exact note_Encode.mono _ _ _ _ _ _ _ _ _ _ _ _ _)
   | (with_reducible exact note_Frame.mono _ _ _ _ _ _ _ _ _ _ _ _ _)
   | (with_reducible exact LeO.refl _)
   | (with_reducible exact LeO.none _)
   | (with_reducible refine LeO.ite ?_ ?_)
   | (with_reducible refine LeO.bind ?_ (fun _ => ?_))
   | exact ih0 _ _ _ _ _ _ _ _ _ _ _ _ _ _
   | exact ih1 _
   | exact ententelaw13_awake.mono _
   | exact ententeref13_Same.mono _ _ _ _ _ _ _ _ _ _ _ _ _ _ _ _ _ _ _ _ _ _ _ _ _
   | exact note_Decode.mono _ _
   | exact note_Encode.mono _ _ _ _ _ _ _ _ _ _ _ _ _
   | exact note_Frame.mono _ _ _ _ _ _ _ _ _ _ _ _ _
   | exact LeO.none _
   | refine LeO.ite ?_ ?_
   | refine LeO.bind ?_ (fun _ => ?_)
  ·intro y0
   unfold ententelaw13_NoteBack.j1
   repeat' first
   | (with_reducible exact ih0 _ _ _ _ _ _ _ _ _ _ _ _ _ _)
   | (with_reducible exact ih1 _)
   | (with_reducible exact ententelaw13_awake.mono _)
   | (with_reducible exact ententeref13_Same.mono _ _ _ _ _ _ _ _ _ _ _ _ _ _ _ _ _ _ _ _ _ _ _ _ _)
   | (with_reducible exact note_Decode.mono _ _)
   | (with_reducible exact note_Encode.mono _ _ _ _ _ _ _ _ _ _ _ _ _)
   | (with_reducible exact note_Frame.mono _ _ _ _ _ _ _ _ _ _ _ _ _)
   | (with_reducible exact LeO.refl _)
   | (with_reducible exact LeO.none _)
   | (with_reducible refine LeO.ite ?_ ?_)
   | (with_reducible refine LeO.bind ?_ (fun _ => ?_))
   | exact ih0 _ _ _ _ _ _ _ _ _ _ _ _ _ _
   | exact ih1 _
   | exact ententelaw13_awake.mono _
   | exact ententeref13_Same.mono _ _ _ _ _ _ _ _ _ _ _ _ _ _ _ _ _ _ _ _ _ _ _ _ _
   | exact note_Decode.mono _ _
   | exact note_Encode.mono _ _ _ _ _ _ _ _ _ _ _ _ _
   | exact note_Frame.mono _ _ _ _ _ _ _ _ _ _ _ _ _
   | exact LeO.none _
   | refine LeO.ite ?_ ?_
   | refine LeO.bind ?_ (fun _ => ?_)
theorem ententelaw13_NoteBack.mono : ∀ a0 a1 a2 a3 a4 a5 a6 a7 a8 a9 a10 a11 a12 k, LeO (ententelaw13_NoteBack.f k a0 a1 a2 a3 a4 a5 a6 a7 a8 a9 a10 a11 a12) (ententelaw13_NoteBack.f (k + 1) a0 a1 a2 a3 a4 a5 a6 a7 a8 a9 a10 a11 a12) := by
 intro a0 a1 a2 a3 a4 a5 a6 a7 a8 a9 a10 a11 a12 k
 obtain ⟨ih0, ih1⟩ := ententelaw13_NoteBack.mono_l k
 unfold ententelaw13_NoteBack.f
 repeat' first
   | (with_reducible exact ih0 _ _ _ _ _ _ _ _ _ _ _ _ _ _)
   | (with_reducible exact ih1 _)
   | (with_reducible exact ententelaw13_awake.mono _)
   | (with_reducible exact ententeref13_Same.mono _ _ _ _ _ _ _ _ _ _ _ _ _ _ _ _ _ _ _ _ _ _ _ _ _)
   | (with_reducible exact note_Decode.mono _ _)
   | (with_reducible exact note_Encode.mono _ _ _ _ _ _ _ _ _ _ _ _ _)
   | (with_reducible exact note_Frame.mono _ _ _ _ _ _ _ _ _ _ _ _ _)
   | (with_reducible exact LeO.refl _)
   | (with_reducible exact LeO.none _)
   | (with_reducible refine LeO.ite ?_ ?_)
   | (with_reducible refine LeO.bind ?_ (fun _ => ?_))
   | exact ih0 _ _ _ _ _ _ _ _ _ _ _ _ _ _
   | exact ih1 _
   | exact ententelaw13_awake.mono _
   | exact ententeref13_Same.mono _ _ _ _ _ _ _ _ _ _ _ _ _ _ _ _ _ _ _ _ _ _ _ _ _
   | exact note_Decode.mono _ _
   | exact note_Encode.mono _ _ _ _ _ _ _ _ _ _ _ _ _
   | exact note_Frame.mono _ _ _ _ _ _ _ _ _ _ _ _ _
   | exact LeO.none _
   | refine LeO.ite ?_ ?_
   | refine LeO.bind ?_ (fun _ => ?_)
set_option maxHeartbeats 8000000 in
set_option maxRecDepth 100000 in
theorem ententelaw13_NoteBack.calls (k : Nat) (a0_0 : Int) (a0_1 : Int) (a0_2 : Int) (a0_3 : Int) (a0_4 : Int) (a0_5 : Int) (a0_6 : Int) (a0_7 : Int) (a0_8 : Int) (A0_9 : Option Addr) (c0_9 : Nat) (l0_9 : List (S50)) (a0_10 : ByteArray) (a0_11 : Int) (a1 : ByteArray) (r : Bool) (w : World) (hr0_9 : Kd.C k50 w A0_9 l0_9.length l0_9) (hc0_9 : l0_9.length ≤ c0_9) (hw_ : WH w) (h : ententelaw13_NoteBack.f k a0_0 a0_1 a0_2 a0_3 a0_4 a0_5 a0_6 a0_7 a0_8 l0_9 a0_10 a0_11 a1 = some r) :
  Calls Tryd.prog 4 #[.agg #[.int .i64 a0_0, .int .i64 a0_1, .int .i64 a0_2, .int .i64 a0_3, .int .i64 a0_4, .int .i64 a0_5, .int .i64 a0_6, .int .i64 a0_7, .int .i64 a0_8, .slice A0_9 l0_9.length c0_9, .string a0_10, .int .i64 a0_11], .string a1] w fun e w' => e = .returned (.bool r) ∧ Below w.heap.size w w' := by
 have hu39 := Tryd.underlying39
 have hu26 := Tryd.underlying26
 have HR0_9 := Aside0.mk hr0_9
 have HC0_9 := Aside0.mk hc0_9
 clear hr0_9 hc0_9
 have HWH_ := Aside0.mk hw_
 clear hw_
 have HB := Aside0.mk (Below.refl w.heap.size w)
 have H : ((ententelaw13_few.f a0_6 a0_7 a0_8 l0_9 a0_10 a0_11).bind fun t383 => (if t383 = true then (ententelaw13_NoteBack.j0 k a1 (decide ((a1.size : Int) > 40000)) a0_0 a0_1 a0_2 a0_3 a0_4 a0_5 a0_6 a0_7 a0_8 l0_9 a0_10 a0_11) else (ententelaw13_NoteBack.j0 k a1 true a0_0 a0_1 a0_2 a0_3 a0_4 a0_5 a0_6 a0_7 a0_8 l0_9 a0_10 a0_11))) = some r := h
 clear h
 have HC3 := Aside0.mk H
 clear H
 go_enter Tryd.func4, Tryd.ntmps4
 go_upto_region 1 with (first | ((with_reducible refine gate_dst (N := 2) rfl ?_); (try (refine gate_guard (by rfl) ?_; dsimp only)); refine box_event ?hg (N := 2) ?hd (cs := #[.int .i64 a0_0, .int .i64 a0_1, .int .i64 a0_2, .int .i64 a0_3, .int .i64 a0_4, .int .i64 a0_5, .int .i64 a0_6, .int .i64 a0_7, .int .i64 a0_8, .slice A0_9 l0_9.length c0_9, .string a0_10, .int .i64 a0_11]) (t := 39) ?hr ?_; (case hd => rfl); (case hg => rfl); (case hr => (go_simp; done)); intro gb382 hg w4 hbox hb; have BK382 := Aside0.mk (hbox); have GW382 := Aside0.mk ((by rw [hg]; exact (below_size (HB.out)) : w.heap.size ≤ gb382)); have GE382 := Aside0.mk ((by rw [hg]; exact (below_size (HB.out)) : w.heap.size ≤ gb382)); replace HB := Aside0.mk (below_step (HB.out) hb); clear hb hbox hg))
 (try simp only [Act.put, List.setIfInBounds_toArray, List.set_cons_zero, List.set_cons_succ])
 go_cut [21] (fun v21 wc => ∃ (kq : Nat) (x21_2 : Bool), v21 = .bool x21_2 ∧ Aside0 (ententelaw13_NoteBack.j0 kq a1 x21_2 a0_0 a0_1 a0_2 a0_3 a0_4 a0_5 a0_6 a0_7 a0_8 l0_9 a0_10 a0_11 = some r) ∧ Aside0 (kq ≤ k) ∧ Aside0 (wc.heap[gb382]? = some (.cells #[.int .i64 a0_0, .int .i64 a0_1, .int .i64 a0_2, .int .i64 a0_3, .int .i64 a0_4, .int .i64 a0_5, .int .i64 a0_6, .int .i64 a0_7, .int .i64 a0_8, (.slice A0_9 l0_9.length c0_9), .string a0_10, .int .i64 a0_11] 39 (0, 0))) ∧ Aside0 (Below w.heap.size w wc))
 case first =>
  have H := HC3.out
  clear HC3
  obtain ⟨t383, A50, H⟩ := Option.bind_eq_some_iff.mp H
  try dsimp only at H
  have A5 := Aside0.mk A50
  clear A50
  by_cases c6 : t383 = true
  ·subst c6
   have H1 : (ententelaw13_NoteBack.j0 k a1 (decide ((a1.size : Int) > 40000)) a0_0 a0_1 a0_2 a0_3 a0_4 a0_5 a0_6 a0_7 a0_8 l0_9 a0_10 a0_11) = some r := by rw [if_pos rfl] at H; exact H
   clear H
   have H := H1
   clear H1
   have H' := Aside0.mk H
   clear H
   obtain ⟨hcz7_0, hcz7_1, hcz7_2, hcz7_3, hcz7_4, hcz7_5, hcz7_6, hcz7_7, hcz7_8, hcz7_9, hcz7_10, hcz7_11⟩ := bc12 BK382.out
   obtain ⟨hfz7_0, hfz7_1, hfz7_2, hfz7_3, hfz7_4, hfz7_5, hfz7_6, hfz7_7, hfz7_8, hfz7_9, hfz7_10, hfz7_11⟩ := bf12 BK382.out
   go_wp2_with (first | ((with_reducible refine gate_callee (f := 6) rfl ?_); refine goesL_ (some 15) rfl rfl Tryd.func6 (by kernel_rfl) rfl #[.agg #[.int .i64 a0_6, .int .i64 a0_7, .int .i64 a0_8, .slice A0_9 l0_9.length c0_9, .string a0_10, .int .i64 a0_11]] rfl (by (try simp only [List.map_toArray, List.map_cons, List.map_nil]); rfl) ?_; (with_reducible refine (ententelaw13_few.calls a0_6 a0_7 a0_8 _ _ l0_9 a0_10 a0_11 true _ ?side1 ?side2 A5.out).mono ?_); (case side1 => exact (Kd.C_below HR0_9.out HB.out)); (case side2 => exact HC0_9.out); rintro e w8 ⟨rfl, hb⟩; refine ⟨_, rfl, ?_⟩; replace BK382 := Aside0.mk (blk_below BK382.out hb); replace HB := Aside0.mk (below_step (HB.out) hb); clear hb))
   go_meet
   case rel => exact ⟨_, (decide ((a1.size : Int) > 40000)), (by rfl), H', ⟨by omega⟩, ⟨by exact BK382.out⟩, ⟨HB.out⟩⟩
  ·replace c6 := Bool.eq_false_iff.mpr c6
   subst c6
   have H1 : (ententelaw13_NoteBack.j0 k a1 true a0_0 a0_1 a0_2 a0_3 a0_4 a0_5 a0_6 a0_7 a0_8 l0_9 a0_10 a0_11) = some r := by rw [if_neg (show ¬ (false = true) by decide)] at H; exact H
   clear H
   have H := H1
   clear H1
   have H' := Aside0.mk H
   clear H
   obtain ⟨hcz9_0, hcz9_1, hcz9_2, hcz9_3, hcz9_4, hcz9_5, hcz9_6, hcz9_7, hcz9_8, hcz9_9, hcz9_10, hcz9_11⟩ := bc12 BK382.out
   obtain ⟨hfz9_0, hfz9_1, hfz9_2, hfz9_3, hfz9_4, hfz9_5, hfz9_6, hfz9_7, hfz9_8, hfz9_9, hfz9_10, hfz9_11⟩ := bf12 BK382.out
   go_wp2_with (first | ((with_reducible refine gate_callee (f := 6) rfl ?_); refine goesL_ (some 15) rfl rfl Tryd.func6 (by kernel_rfl) rfl #[.agg #[.int .i64 a0_6, .int .i64 a0_7, .int .i64 a0_8, .slice A0_9 l0_9.length c0_9, .string a0_10, .int .i64 a0_11]] rfl (by (try simp only [List.map_toArray, List.map_cons, List.map_nil]); rfl) ?_; (with_reducible refine (ententelaw13_few.calls a0_6 a0_7 a0_8 _ _ l0_9 a0_10 a0_11 false _ ?side1 ?side2 A5.out).mono ?_); (case side1 => exact (Kd.C_below HR0_9.out HB.out)); (case side2 => exact HC0_9.out); rintro e w10 ⟨rfl, hb⟩; refine ⟨_, rfl, ?_⟩; replace BK382 := Aside0.mk (blk_below BK382.out hb); replace HB := Aside0.mk (below_step (HB.out) hb); clear hb))
   go_meet
   case rel => exact ⟨_, (true), (by rfl), H', ⟨by omega⟩, ⟨by exact BK382.out⟩, ⟨HB.out⟩⟩
 case rest =>
  clear HC3
  obtain ⟨kq, x21_2, rfl, HA, HJ2, BK382, HB⟩ := hcut
  cases kq with
  | zero => exact absurd HA.out (by simp [ententelaw13_NoteBack.j0])
  | succ kj2 =>
   have H := HA.out
   clear HA
   simp only [ententelaw13_NoteBack.j0] at H
   by_cases c11 : x21_2 = true
   ·subst c11
    have H1 : ((ententelaw13_awake.f kj2).bind fun t384 => (some t384)) = some r := by rw [if_pos rfl] at H; exact H
    clear H
    have H := H1
    clear H1
    obtain ⟨t384, A120, H⟩ := Option.bind_eq_some_iff.mp H
    try dsimp only at H
    have A12 := Aside0.mk A120
    clear A120
    obtain rfl := Option.some.inj H
    go_wp2_with (first | ((with_reducible refine gate_callee (f := 7) rfl ?_); refine goesL_ (some 22) rfl rfl Tryd.func7 (by kernel_rfl) rfl #[] rfl (by (try simp only [List.map_toArray, List.map_cons, List.map_nil]); done) ?_; (with_reducible refine (ententelaw13_awake.calls kj2  t384 _ ?side1 A12.out).mono ?_); (case side1 => exact WH.below HWH_.out (HB.out)); rintro e w13 ⟨rfl, hb⟩; refine ⟨_, rfl, ?_⟩; replace BK382 := Aside0.mk (blk_below BK382.out hb); replace HB := Aside0.mk (below_step (HB.out) hb); clear hb))
    go_ret
    exact ⟨by rfl, HB.out⟩
   ·replace c11 := Bool.eq_false_iff.mpr c11
    subst c11
    have H1 : ((note_Encode.f kj2 a0_0 a0_1 a0_2 a0_3 a0_4 a0_5 a0_6 a0_7 a0_8 l0_9 a0_10 a0_11).bind fun bt385 => (if bt385.2 = 0 then ((note_Decode.f kj2 bt385.1).bind fun bt387 => (if bt387.2.2.2.2.2.2.2.2.2.2.2.2 = 0 then ((ententeref13_Same.f kj2 bt387.1 bt387.2.1 bt387.2.2.1 bt387.2.2.2.1 bt387.2.2.2.2.1 bt387.2.2.2.2.2.1 bt387.2.2.2.2.2.2.1 bt387.2.2.2.2.2.2.2.1 bt387.2.2.2.2.2.2.2.2.1 bt387.2.2.2.2.2.2.2.2.2.1 bt387.2.2.2.2.2.2.2.2.2.2.1 bt387.2.2.2.2.2.2.2.2.2.2.2.1 a0_0 a0_1 a0_2 a0_3 a0_4 a0_5 a0_6 a0_7 a0_8 l0_9 a0_10 a0_11).bind fun t403 => (if t403 = true then ((note_Frame.f kj2 bt387.1 bt387.2.1 bt387.2.2.1 bt387.2.2.2.1 bt387.2.2.2.2.1 bt387.2.2.2.2.2.1 bt387.2.2.2.2.2.2.1 bt387.2.2.2.2.2.2.2.1 bt387.2.2.2.2.2.2.2.2.1 bt387.2.2.2.2.2.2.2.2.2.1 bt387.2.2.2.2.2.2.2.2.2.2.1 bt387.2.2.2.2.2.2.2.2.2.2.2.1).bind fun t404 => (if t404 = 0 then (ententelaw13_NoteBack.j1 kj2 a1) else (none))) else (none))) else (none))) else (ententelaw13_NoteBack.j1 kj2 a1))) = some r := by rw [if_neg (show ¬ (false = true) by decide)] at H; exact H
    clear H
    have H := H1
    clear H1
    obtain ⟨⟨t385, t386⟩, A140, H⟩ := Option.bind_eq_some_iff.mp H
    try dsimp only at H
    have A14 := Aside0.mk A140
    clear A140
    have HC15 := Aside0.mk H
    clear H
    obtain ⟨hcz16_0, hcz16_1, hcz16_2, hcz16_3, hcz16_4, hcz16_5, hcz16_6, hcz16_7, hcz16_8, hcz16_9, hcz16_10, hcz16_11⟩ := bc12 BK382.out
    obtain ⟨hfz16_0, hfz16_1, hfz16_2, hfz16_3, hfz16_4, hfz16_5, hfz16_6, hfz16_7, hfz16_8, hfz16_9, hfz16_10, hfz16_11⟩ := bf12 BK382.out
    go_upto_if 29 with (first | ((with_reducible refine gate_callee (f := 14) rfl ?_); refine goesL_ (some 25) rfl rfl Tryd.func14 (by kernel_rfl) rfl #[.agg #[.int .i64 a0_0, .int .i64 a0_1, .int .i64 a0_2, .int .i64 a0_3, .int .i64 a0_4, .int .i64 a0_5, .int .i64 a0_6, .int .i64 a0_7, .int .i64 a0_8, .slice A0_9 l0_9.length c0_9, .string a0_10, .int .i64 a0_11]] rfl (by (try simp only [List.map_toArray, List.map_cons, List.map_nil]); rfl) ?_; (with_reducible refine (note_Encode.calls kj2 a0_0 a0_1 a0_2 a0_3 a0_4 a0_5 a0_6 a0_7 a0_8 _ _ l0_9 a0_10 a0_11 t385 t386 _ ?side1 ?side2 ?side3 A14.out).mono ?_); (case side1 => exact (Kd.C_below HR0_9.out HB.out)); (case side2 => exact HC0_9.out); (case side3 => exact WH.below HWH_.out (HB.out)); rintro e w17 ⟨rfl, hb⟩; refine ⟨_, rfl, ?_⟩; replace BK382 := Aside0.mk (blk_below BK382.out hb); replace HB := Aside0.mk (below_step (HB.out) hb); clear hb))
    (try simp only [Act.put, List.setIfInBounds_toArray, List.set_cons_zero, List.set_cons_succ])
    go_cut [] (fun wc => ∃ (kq : Nat), Aside0 (ententelaw13_NoteBack.j1 kq a1 = some r) ∧ Aside0 (kq ≤ kj2) ∧ Aside0 (wc.heap[gb382]? = some (.cells #[.int .i64 a0_0, .int .i64 a0_1, .int .i64 a0_2, .int .i64 a0_3, .int .i64 a0_4, .int .i64 a0_5, .int .i64 a0_6, .int .i64 a0_7, .int .i64 a0_8, (.slice A0_9 l0_9.length c0_9), .string a0_10, .int .i64 a0_11] 39 (0, 0))) ∧ Aside0 (Below w.heap.size w wc))
    case first =>
     have H := HC15.out
     clear HC15
     by_cases c18 : t386 = 0
     ·rw [if_pos c18] at H
      have c18b0 : (t386 == 0) = true := beq_iff_eq.mpr c18
      have c18b1 : (t386 != 0) = false := bne_eq_false_iff_eq.mpr c18
      clear c18
      (rw [c18b0])
      obtain ⟨⟨t387, t388, t389, t390, t391, t392, t393, t394, t395, t396, t399, t400, t401⟩, A190, H⟩ := Option.bind_eq_some_iff.mp H
      try dsimp only at H
      have A19 := Aside0.mk A190
      clear A190
      by_cases c20 : t401 = 0
      ·rw [if_pos c20] at H
       have c20b0 : (t401 == 0) = true := beq_iff_eq.mpr c20
       have c20b1 : (t401 != 0) = false := bne_eq_false_iff_eq.mpr c20
       clear c20
       obtain ⟨t403, A210, H⟩ := Option.bind_eq_some_iff.mp H
       try dsimp only at H
       have A21 := Aside0.mk A210
       clear A210
       by_cases c22 : t403 = true
       ·subst c22
        have H1 : ((note_Frame.f kj2 t387 t388 t389 t390 t391 t392 t393 t394 t395 t396 t399 t400).bind fun t404 => (if t404 = 0 then (ententelaw13_NoteBack.j1 kj2 a1) else (none))) = some r := by rw [if_pos rfl] at H; exact H
        clear H
        have H := H1
        clear H1
        obtain ⟨t404, A230, H⟩ := Option.bind_eq_some_iff.mp H
        try dsimp only at H
        have A23 := Aside0.mk A230
        clear A230
        by_cases c24 : t404 = 0
        ·rw [if_pos c24] at H
         have c24b0 : (t404 == 0) = true := beq_iff_eq.mpr c24
         have c24b1 : (t404 != 0) = false := bne_eq_false_iff_eq.mpr c24
         clear c24
         have H' := Aside0.mk H
         clear H
         go_wp2_with (first | ((with_reducible refine gate_callee (f := 15) rfl ?_); refine goesL_ (some 32) rfl rfl Tryd.func15 (by kernel_rfl) rfl #[.string t385] rfl (by (try simp only [List.map_toArray, List.map_cons, List.map_nil]); rfl) ?_; (with_reducible refine (note_Decode.calls kj2 t385 t387 t388 t389 t390 t391 t392 t393 t394 t395 t396 t399 t400 t401 _ ?side1 A19.out).mono ?_); (case side1 => exact WH.below HWH_.out (HB.out)); rintro e w25 ⟨v397, rfl, ho0, hb⟩; refine ⟨_, rfl, ?_⟩; have HO398 := Aside0.mk (Kd.R_lower ho0 (below_size (HB.out))); replace BK382 := Aside0.mk (blk_below BK382.out hb); replace HB := Aside0.mk (below_step (HB.out) hb); clear hb ho0) | ((with_reducible refine gate_dst (N := 7) rfl ?_); (try (refine gate_guard (by rfl) ?_; dsimp only)); refine box_event ?hg (N := 7) ?hd (cs := #[.int .i64 0, .int .i64 0, .int .i64 0, .int .i64 0, .int .i64 0, .int .i64 0, .int .i64 0, .int .i64 0, .int .i64 0, .slice none 0 0, .string (⟨#[]⟩ : ByteArray), .int .i64 0]) (t := 39) ?hr ?_; (case hd => rfl); (case hg => rfl); (case hr => (go_simp; done)); intro gb402 hg w26 hbox hb; replace HO398 := Aside0.mk (Kd.R_below (by exact HO398.out) hb); have BK402 := Aside0.mk (hbox); have GW402 := Aside0.mk ((by rw [hg]; exact (below_size (HB.out)) : w.heap.size ≤ gb402)); have GE402 := Aside0.mk ((by rw [hg]; exact (below_size (HB.out)) : w.heap.size ≤ gb402)); replace HB := Aside0.mk (below_step (HB.out) hb); have NB382_402 := Aside0.mk ((by rw [hg]; exact Nat.ne_of_lt (blk_lt BK382.out) : gb382 ≠ gb402)); have NB402_382 := Aside0.mk ((by rw [hg]; exact Nat.ne_of_gt (blk_lt BK382.out) : gb402 ≠ gb382)); replace BK382 := Aside0.mk (blk_below BK382.out hb); clear hb hbox hg; have hnb27 := NB402_382.out; have hnc27 := NB382_402.out; obtain ⟨hcz28_0, hcz28_1, hcz28_2, hcz28_3, hcz28_4, hcz28_5, hcz28_6, hcz28_7, hcz28_8, hcz28_9, hcz28_10, hcz28_11⟩ := bc12 BK402.out; obtain ⟨hfz28_0, hfz28_1, hfz28_2, hfz28_3, hfz28_4, hfz28_5, hfz28_6, hfz28_7, hfz28_8, hfz28_9, hfz28_10, hfz28_11⟩ := bf12 BK402.out; obtain ⟨Ao29, co29, eo29⟩ := Kd.R_slice HO398.out; subst eo29; obtain ⟨hcz30_0, hcz30_1, hcz30_2, hcz30_3, hcz30_4, hcz30_5, hcz30_6, hcz30_7, hcz30_8, hcz30_9, hcz30_10, hcz30_11⟩ := bc12 BK382.out; obtain ⟨hfz30_0, hfz30_1, hfz30_2, hfz30_3, hfz30_4, hfz30_5, hfz30_6, hfz30_7, hfz30_8, hfz30_9, hfz30_10, hfz30_11⟩ := bf12 BK382.out) | (go_at_call 16; (with_reducible refine (ententeref13_Same.calls kj2 t387 t388 t389 t390 t391 t392 t393 t394 t395 _ _ t396 t399 t400 a0_0 a0_1 a0_2 a0_3 a0_4 a0_5 a0_6 a0_7 a0_8 _ _ l0_9 a0_10 a0_11 true _ ?side1 ?side2 ?side3 ?side4 A21.out).mono ?_); (case side1 => refine (Kd.R_reads' (e := 50) (base := w.heap.size) (ok := fun k_ => True) (n := t396.length) (c := co29) ?_).2.2; exact (by exact (Kd.R_mono (Kd.R_far (p := ⟨gb402, 11, none⟩) (Kd.R_far (p := ⟨gb402, 10, none⟩) (Kd.R_far (p := ⟨gb402, 9, none⟩) (Kd.R_far (p := ⟨gb402, 8, none⟩) (Kd.R_far (p := ⟨gb402, 7, none⟩) (Kd.R_far (p := ⟨gb402, 6, none⟩) (Kd.R_far (p := ⟨gb402, 5, none⟩) (Kd.R_far (p := ⟨gb402, 4, none⟩) (Kd.R_far (p := ⟨gb402, 3, none⟩) (Kd.R_far (p := ⟨gb402, 2, none⟩) (Kd.R_far (p := ⟨gb402, 1, none⟩) (Kd.R_far (p := ⟨gb402, 0, none⟩) (Kd.R_types HO398.out BK402.out (by decide)) (fun _ hk => hk.2) (.int .i64 t387)) (fun _ hk => hk.2) (.int .i64 t388)) (fun _ hk => hk.2) (.int .i64 t389)) (fun _ hk => hk.2) (.int .i64 t390)) (fun _ hk => hk.2) (.int .i64 t391)) (fun _ hk => hk.2) (.int .i64 t392)) (fun _ hk => hk.2) (.int .i64 t393)) (fun _ hk => hk.2) (.int .i64 t394)) (fun _ hk => hk.2) (.int .i64 t395)) (fun _ hk => hk.2) (.slice Ao29 t396.length co29)) (fun _ hk => hk.2) (.string t399)) (fun _ hk => hk.2) (.int .i64 t400)) (fun _ h_ => h_.1)))); (case side2 => exact (Kd.R_reads' HO398.out).2.1); (case side3 => exact Kd.C_below HR0_9.out (below_set (below_set (below_set (below_set (below_set (below_set (below_set (below_set (below_set (below_set (below_set (below_set HB.out GE402.out) GE402.out) GE402.out) GE402.out) GE402.out) GE402.out) GE402.out) GE402.out) GE402.out) GE402.out) GE402.out) GE402.out)); (case side4 => exact HC0_9.out); rintro e w31 ⟨rfl, hb⟩; replace HO398 := Aside0.mk (Kd.R_below (by exact (Kd.R_mono (Kd.R_far (p := ⟨gb402, 11, none⟩) (Kd.R_far (p := ⟨gb402, 10, none⟩) (Kd.R_far (p := ⟨gb402, 9, none⟩) (Kd.R_far (p := ⟨gb402, 8, none⟩) (Kd.R_far (p := ⟨gb402, 7, none⟩) (Kd.R_far (p := ⟨gb402, 6, none⟩) (Kd.R_far (p := ⟨gb402, 5, none⟩) (Kd.R_far (p := ⟨gb402, 4, none⟩) (Kd.R_far (p := ⟨gb402, 3, none⟩) (Kd.R_far (p := ⟨gb402, 2, none⟩) (Kd.R_far (p := ⟨gb402, 1, none⟩) (Kd.R_far (p := ⟨gb402, 0, none⟩) (Kd.R_types HO398.out BK402.out (by decide)) (fun _ hk => hk.2) (.int .i64 t387)) (fun _ hk => hk.2) (.int .i64 t388)) (fun _ hk => hk.2) (.int .i64 t389)) (fun _ hk => hk.2) (.int .i64 t390)) (fun _ hk => hk.2) (.int .i64 t391)) (fun _ hk => hk.2) (.int .i64 t392)) (fun _ hk => hk.2) (.int .i64 t393)) (fun _ hk => hk.2) (.int .i64 t394)) (fun _ hk => hk.2) (.int .i64 t395)) (fun _ hk => hk.2) (.slice Ao29 t396.length co29)) (fun _ hk => hk.2) (.string t399)) (fun _ hk => hk.2) (.int .i64 t400)) (fun _ h_ => h_.1))) hb); replace BK382 := Aside0.mk (blk_below (g := gb382) (o := .cells #[.int .i64 a0_0, .int .i64 a0_1, .int .i64 a0_2, .int .i64 a0_3, .int .i64 a0_4, .int .i64 a0_5, .int .i64 a0_6, .int .i64 a0_7, .int .i64 a0_8, .slice A0_9 l0_9.length c0_9, .string a0_10, .int .i64 a0_11] 39 (0, 0)) (by refine blk_far ?_ NB382_402.out _; refine blk_far ?_ NB382_402.out _; refine blk_far ?_ NB382_402.out _; refine blk_far ?_ NB382_402.out _; refine blk_far ?_ NB382_402.out _; refine blk_far ?_ NB382_402.out _; refine blk_far ?_ NB382_402.out _; refine blk_far ?_ NB382_402.out _; refine blk_far ?_ NB382_402.out _; refine blk_far ?_ NB382_402.out _; refine blk_far ?_ NB382_402.out _; refine blk_far ?_ NB382_402.out _; exact BK382.out) hb); replace BK402 := Aside0.mk (blk_below (g := gb402) (o := .cells #[.int .i64 t387, .int .i64 t388, .int .i64 t389, .int .i64 t390, .int .i64 t391, .int .i64 t392, .int .i64 t393, .int .i64 t394, .int .i64 t395, .slice Ao29 t396.length co29, .string t399, .int .i64 t400] 39 (0, 0)) (by refine blk_put (cs := #[.int .i64 t387, .int .i64 t388, .int .i64 t389, .int .i64 t390, .int .i64 t391, .int .i64 t392, .int .i64 t393, .int .i64 t394, .int .i64 t395, .slice Ao29 t396.length co29, .string t399, .int .i64 0]) ?_ 11 _ rfl; refine blk_put (cs := #[.int .i64 t387, .int .i64 t388, .int .i64 t389, .int .i64 t390, .int .i64 t391, .int .i64 t392, .int .i64 t393, .int .i64 t394, .int .i64 t395, .slice Ao29 t396.length co29, .string (⟨#[]⟩ : ByteArray), .int .i64 0]) ?_ 10 _ rfl; refine blk_put (cs := #[.int .i64 t387, .int .i64 t388, .int .i64 t389, .int .i64 t390, .int .i64 t391, .int .i64 t392, .int .i64 t393, .int .i64 t394, .int .i64 t395, .slice none 0 0, .string (⟨#[]⟩ : ByteArray), .int .i64 0]) ?_ 9 _ rfl; refine blk_put (cs := #[.int .i64 t387, .int .i64 t388, .int .i64 t389, .int .i64 t390, .int .i64 t391, .int .i64 t392, .int .i64 t393, .int .i64 t394, .int .i64 0, .slice none 0 0, .string (⟨#[]⟩ : ByteArray), .int .i64 0]) ?_ 8 _ rfl; refine blk_put (cs := #[.int .i64 t387, .int .i64 t388, .int .i64 t389, .int .i64 t390, .int .i64 t391, .int .i64 t392, .int .i64 t393, .int .i64 0, .int .i64 0, .slice none 0 0, .string (⟨#[]⟩ : ByteArray), .int .i64 0]) ?_ 7 _ rfl; refine blk_put (cs := #[.int .i64 t387, .int .i64 t388, .int .i64 t389, .int .i64 t390, .int .i64 t391, .int .i64 t392, .int .i64 0, .int .i64 0, .int .i64 0, .slice none 0 0, .string (⟨#[]⟩ : ByteArray), .int .i64 0]) ?_ 6 _ rfl; refine blk_put (cs := #[.int .i64 t387, .int .i64 t388, .int .i64 t389, .int .i64 t390, .int .i64 t391, .int .i64 0, .int .i64 0, .int .i64 0, .int .i64 0, .slice none 0 0, .string (⟨#[]⟩ : ByteArray), .int .i64 0]) ?_ 5 _ rfl; refine blk_put (cs := #[.int .i64 t387, .int .i64 t388, .int .i64 t389, .int .i64 t390, .int .i64 0, .int .i64 0, .int .i64 0, .int .i64 0, .int .i64 0, .slice none 0 0, .string (⟨#[]⟩ : ByteArray), .int .i64 0]) ?_ 4 _ rfl; refine blk_put (cs := #[.int .i64 t387, .int .i64 t388, .int .i64 t389, .int .i64 0, .int .i64 0, .int .i64 0, .int .i64 0, .int .i64 0, .int .i64 0, .slice none 0 0, .string (⟨#[]⟩ : ByteArray), .int .i64 0]) ?_ 3 _ rfl; refine blk_put (cs := #[.int .i64 t387, .int .i64 t388, .int .i64 0, .int .i64 0, .int .i64 0, .int .i64 0, .int .i64 0, .int .i64 0, .int .i64 0, .slice none 0 0, .string (⟨#[]⟩ : ByteArray), .int .i64 0]) ?_ 2 _ rfl; refine blk_put (cs := #[.int .i64 t387, .int .i64 0, .int .i64 0, .int .i64 0, .int .i64 0, .int .i64 0, .int .i64 0, .int .i64 0, .int .i64 0, .slice none 0 0, .string (⟨#[]⟩ : ByteArray), .int .i64 0]) ?_ 1 _ rfl; refine blk_put (cs := #[.int .i64 0, .int .i64 0, .int .i64 0, .int .i64 0, .int .i64 0, .int .i64 0, .int .i64 0, .int .i64 0, .int .i64 0, .slice none 0 0, .string (⟨#[]⟩ : ByteArray), .int .i64 0]) ?_ 0 _ rfl; exact BK402.out) hb); replace HB := Aside0.mk (below_step (below_set (below_set (below_set (below_set (below_set (below_set (below_set (below_set (below_set (below_set (below_set (below_set HB.out GE402.out) GE402.out) GE402.out) GE402.out) GE402.out) GE402.out) GE402.out) GE402.out) GE402.out) GE402.out) GE402.out) GE402.out) hb); clear hb; obtain ⟨hcz32_0, hcz32_1, hcz32_2, hcz32_3, hcz32_4, hcz32_5, hcz32_6, hcz32_7, hcz32_8, hcz32_9, hcz32_10, hcz32_11⟩ := bc12 BK402.out; obtain ⟨hfz32_0, hfz32_1, hfz32_2, hfz32_3, hfz32_4, hfz32_5, hfz32_6, hfz32_7, hfz32_8, hfz32_9, hfz32_10, hfz32_11⟩ := bf12 BK402.out) | (go_at_call 17; (with_reducible refine (note_Frame.calls kj2 t387 t388 t389 t390 t391 t392 t393 t394 t395 _ _ t396 t399 t400 t404 _ ?side1 ?side2 A23.out).mono ?_); (case side1 => exact (Kd.R_reads' HO398.out).2.2); (case side2 => exact (Kd.R_reads' HO398.out).2.1); rintro e w33 ⟨rfl, hb⟩; replace HO398 := Aside0.mk (Kd.R_below (by exact HO398.out) hb); replace BK382 := Aside0.mk (blk_below BK382.out hb); replace BK402 := Aside0.mk (blk_below BK402.out hb); replace HB := Aside0.mk (below_step (HB.out) hb); clear hb))
         go_meet
         case rel => exact ⟨_, H', ⟨by have := HJ2.out; omega⟩, ⟨by exact BK382.out⟩, ⟨HB.out⟩⟩
        ·rw [if_neg c24] at H
         exact absurd H (by simp)
       ·replace c22 := Bool.eq_false_iff.mpr c22
        subst c22
        have H1 : (none) = some r := by rw [if_neg (show ¬ (false = true) by decide)] at H; exact H
        clear H
        have H := H1
        clear H1
        exact absurd H (by simp)
      ·rw [if_neg c20] at H
       exact absurd H (by simp)
     ·rw [if_neg c18] at H
      have c18b0 : (t386 == 0) = false := beq_eq_false_iff_ne.mpr c18
      have c18b1 : (t386 != 0) = true := bne_iff_ne.mpr c18
      (rw [c18b0])
      have H' := Aside0.mk H
      clear H
      go_wp2
      go_meet
      case rel => exact ⟨_, H', ⟨by have := HJ2.out; omega⟩, ⟨by exact BK382.out⟩, ⟨HB.out⟩⟩
    case rest =>
     clear HC15 hcz16_0 hcz16_1 hcz16_10 hcz16_11 hcz16_2 hcz16_3 hcz16_4 hcz16_5 hcz16_6 hcz16_7 hcz16_8 hcz16_9 hfz16_0 hfz16_1 hfz16_10 hfz16_11 hfz16_2 hfz16_3 hfz16_4 hfz16_5 hfz16_6 hfz16_7 hfz16_8 hfz16_9
     obtain ⟨kq, HA, HJ14, BK382, HB⟩ := hcut
     cases kq with
     | zero => exact absurd HA.out (by simp [ententelaw13_NoteBack.j1])
     | succ kj14 =>
      have H := HA.out
      clear HA
      simp only [ententelaw13_NoteBack.j1] at H
      obtain ⟨⟨t405, t406, t407, t408, t409, t410, t411, t412, t413, t414, t417, t418, t419⟩, A340, H⟩ := Option.bind_eq_some_iff.mp H
      try dsimp only at H
      have A34 := Aside0.mk A340
      clear A340
      by_cases c35 : t419 = 0
      ·rw [if_pos c35] at H
       have c35b0 : (t419 == 0) = true := beq_iff_eq.mpr c35
       have c35b1 : (t419 != 0) = false := bne_eq_false_iff_eq.mpr c35
       clear c35
       obtain ⟨⟨t421, t422⟩, A360, H⟩ := Option.bind_eq_some_iff.mp H
       try dsimp only at H
       have A36 := Aside0.mk A360
       clear A360
       by_cases c37 : t421.toList = a1.toList
       ·rw [if_pos c37] at H
        have c37b0 : (t421.toList == a1.toList) = true := beq_iff_eq.mpr c37
        have c37b1 : (t421.toList != a1.toList) = false := bne_eq_false_iff_eq.mpr c37
        clear c37
        by_cases c38 : t422 = 0
        ·rw [if_pos c38] at H
         have c38b0 : (t422 == 0) = true := beq_iff_eq.mpr c38
         have c38b1 : (t422 != 0) = false := bne_eq_false_iff_eq.mpr c38
         clear c38
         obtain ⟨t423, A390, H⟩ := Option.bind_eq_some_iff.mp H
         try dsimp only at H
         have A39 := Aside0.mk A390
         clear A390
         obtain rfl := Option.some.inj H
         go_wp2_with (first | ((with_reducible refine gate_callee (f := 15) rfl ?_); refine goesL_ (some 50) rfl rfl Tryd.func15 (by kernel_rfl) rfl #[.string a1] rfl (by (try simp only [List.map_toArray, List.map_cons, List.map_nil]); rfl) ?_; (with_reducible refine (note_Decode.calls kj14 a1 t405 t406 t407 t408 t409 t410 t411 t412 t413 t414 t417 t418 t419 _ ?side1 A34.out).mono ?_); (case side1 => exact WH.below HWH_.out (HB.out)); rintro e w40 ⟨v415, rfl, ho0, hb⟩; refine ⟨_, rfl, ?_⟩; have HO416 := Aside0.mk (Kd.R_lower ho0 (below_size (HB.out))); replace BK382 := Aside0.mk (blk_below BK382.out hb); replace HB := Aside0.mk (below_step (HB.out) hb); clear hb ho0) | ((with_reducible refine gate_dst (N := 9) rfl ?_); (try (refine gate_guard (by rfl) ?_; dsimp only)); refine box_event ?hg (N := 9) ?hd (cs := #[.int .i64 0, .int .i64 0, .int .i64 0, .int .i64 0, .int .i64 0, .int .i64 0, .int .i64 0, .int .i64 0, .int .i64 0, .slice none 0 0, .string (⟨#[]⟩ : ByteArray), .int .i64 0]) (t := 39) ?hr ?_; (case hd => rfl); (case hg => rfl); (case hr => (go_simp; done)); intro gb420 hg w41 hbox hb; replace HO416 := Aside0.mk (Kd.R_below (by exact HO416.out) hb); have BK420 := Aside0.mk (hbox); have GW420 := Aside0.mk ((by rw [hg]; exact (below_size (HB.out)) : w.heap.size ≤ gb420)); have GE420 := Aside0.mk ((by rw [hg]; exact (below_size (HB.out)) : w.heap.size ≤ gb420)); replace HB := Aside0.mk (below_step (HB.out) hb); have NB382_420 := Aside0.mk ((by rw [hg]; exact Nat.ne_of_lt (blk_lt BK382.out) : gb382 ≠ gb420)); have NB420_382 := Aside0.mk ((by rw [hg]; exact Nat.ne_of_gt (blk_lt BK382.out) : gb420 ≠ gb382)); replace BK382 := Aside0.mk (blk_below BK382.out hb); clear hb hbox hg; have hnb42 := NB420_382.out; have hnc42 := NB382_420.out; obtain ⟨hcz43_0, hcz43_1, hcz43_2, hcz43_3, hcz43_4, hcz43_5, hcz43_6, hcz43_7, hcz43_8, hcz43_9, hcz43_10, hcz43_11⟩ := bc12 BK420.out; obtain ⟨hfz43_0, hfz43_1, hfz43_2, hfz43_3, hfz43_4, hfz43_5, hfz43_6, hfz43_7, hfz43_8, hfz43_9, hfz43_10, hfz43_11⟩ := bf12 BK420.out; obtain ⟨Ao44, co44, eo44⟩ := Kd.R_slice HO416.out; subst eo44) | ((with_reducible refine gate_callee (f := 14) rfl ?_); refine goesL_ (some 63) rfl rfl Tryd.func14 (by kernel_rfl) rfl #[.agg #[.int .i64 t405, .int .i64 t406, .int .i64 t407, .int .i64 t408, .int .i64 t409, .int .i64 t410, .int .i64 t411, .int .i64 t412, .int .i64 t413, .slice Ao44 t414.length co44, .string t417, .int .i64 t418]] rfl (by (try simp only [List.map_toArray, List.map_cons, List.map_nil]); rfl) ?_; (with_reducible refine (note_Encode.calls kj14 t405 t406 t407 t408 t409 t410 t411 t412 t413 _ _ t414 t417 t418 t421 t422 _ ?side1 ?side2 ?side3 A36.out).mono ?_); (case side1 => refine (Kd.R_reads' (e := 50) (base := w.heap.size) (ok := fun k_ => True) (n := t414.length) (c := co44) ?_).2.2; exact (by exact (Kd.R_mono (Kd.R_far (p := ⟨gb420, 11, none⟩) (Kd.R_far (p := ⟨gb420, 10, none⟩) (Kd.R_far (p := ⟨gb420, 9, none⟩) (Kd.R_far (p := ⟨gb420, 8, none⟩) (Kd.R_far (p := ⟨gb420, 7, none⟩) (Kd.R_far (p := ⟨gb420, 6, none⟩) (Kd.R_far (p := ⟨gb420, 5, none⟩) (Kd.R_far (p := ⟨gb420, 4, none⟩) (Kd.R_far (p := ⟨gb420, 3, none⟩) (Kd.R_far (p := ⟨gb420, 2, none⟩) (Kd.R_far (p := ⟨gb420, 1, none⟩) (Kd.R_far (p := ⟨gb420, 0, none⟩) (Kd.R_types HO416.out BK420.out (by decide)) (fun _ hk => hk.2) (.int .i64 t405)) (fun _ hk => hk.2) (.int .i64 t406)) (fun _ hk => hk.2) (.int .i64 t407)) (fun _ hk => hk.2) (.int .i64 t408)) (fun _ hk => hk.2) (.int .i64 t409)) (fun _ hk => hk.2) (.int .i64 t410)) (fun _ hk => hk.2) (.int .i64 t411)) (fun _ hk => hk.2) (.int .i64 t412)) (fun _ hk => hk.2) (.int .i64 t413)) (fun _ hk => hk.2) (.slice Ao44 t414.length co44)) (fun _ hk => hk.2) (.string t417)) (fun _ hk => hk.2) (.int .i64 t418)) (fun _ h_ => h_.1)))); (case side2 => exact (Kd.R_reads' HO416.out).2.1); (case side3 => exact WH.below HWH_.out (below_set (below_set (below_set (below_set (below_set (below_set (below_set (below_set (below_set (below_set (below_set (below_set HB.out GE420.out) GE420.out) GE420.out) GE420.out) GE420.out) GE420.out) GE420.out) GE420.out) GE420.out) GE420.out) GE420.out) GE420.out)); rintro e w45 ⟨rfl, hb⟩; refine ⟨_, rfl, ?_⟩; replace HO416 := Aside0.mk (Kd.R_below (by exact (Kd.R_mono (Kd.R_far (p := ⟨gb420, 11, none⟩) (Kd.R_far (p := ⟨gb420, 10, none⟩) (Kd.R_far (p := ⟨gb420, 9, none⟩) (Kd.R_far (p := ⟨gb420, 8, none⟩) (Kd.R_far (p := ⟨gb420, 7, none⟩) (Kd.R_far (p := ⟨gb420, 6, none⟩) (Kd.R_far (p := ⟨gb420, 5, none⟩) (Kd.R_far (p := ⟨gb420, 4, none⟩) (Kd.R_far (p := ⟨gb420, 3, none⟩) (Kd.R_far (p := ⟨gb420, 2, none⟩) (Kd.R_far (p := ⟨gb420, 1, none⟩) (Kd.R_far (p := ⟨gb420, 0, none⟩) (Kd.R_types HO416.out BK420.out (by decide)) (fun _ hk => hk.2) (.int .i64 t405)) (fun _ hk => hk.2) (.int .i64 t406)) (fun _ hk => hk.2) (.int .i64 t407)) (fun _ hk => hk.2) (.int .i64 t408)) (fun _ hk => hk.2) (.int .i64 t409)) (fun _ hk => hk.2) (.int .i64 t410)) (fun _ hk => hk.2) (.int .i64 t411)) (fun _ hk => hk.2) (.int .i64 t412)) (fun _ hk => hk.2) (.int .i64 t413)) (fun _ hk => hk.2) (.slice Ao44 t414.length co44)) (fun _ hk => hk.2) (.string t417)) (fun _ hk => hk.2) (.int .i64 t418)) (fun _ h_ => h_.1))) hb); replace BK382 := Aside0.mk (blk_below (g := gb382) (o := .cells #[.int .i64 a0_0, .int .i64 a0_1, .int .i64 a0_2, .int .i64 a0_3, .int .i64 a0_4, .int .i64 a0_5, .int .i64 a0_6, .int .i64 a0_7, .int .i64 a0_8, .slice A0_9 l0_9.length c0_9, .string a0_10, .int .i64 a0_11] 39 (0, 0)) (by refine blk_far ?_ NB382_420.out _; refine blk_far ?_ NB382_420.out _; refine blk_far ?_ NB382_420.out _; refine blk_far ?_ NB382_420.out _; refine blk_far ?_ NB382_420.out _; refine blk_far ?_ NB382_420.out _; refine blk_far ?_ NB382_420.out _; refine blk_far ?_ NB382_420.out _; refine blk_far ?_ NB382_420.out _; refine blk_far ?_ NB382_420.out _; refine blk_far ?_ NB382_420.out _; refine blk_far ?_ NB382_420.out _; exact BK382.out) hb); replace BK420 := Aside0.mk (blk_below (g := gb420) (o := .cells #[.int .i64 t405, .int .i64 t406, .int .i64 t407, .int .i64 t408, .int .i64 t409, .int .i64 t410, .int .i64 t411, .int .i64 t412, .int .i64 t413, .slice Ao44 t414.length co44, .string t417, .int .i64 t418] 39 (0, 0)) (by refine blk_put (cs := #[.int .i64 t405, .int .i64 t406, .int .i64 t407, .int .i64 t408, .int .i64 t409, .int .i64 t410, .int .i64 t411, .int .i64 t412, .int .i64 t413, .slice Ao44 t414.length co44, .string t417, .int .i64 0]) ?_ 11 _ rfl; refine blk_put (cs := #[.int .i64 t405, .int .i64 t406, .int .i64 t407, .int .i64 t408, .int .i64 t409, .int .i64 t410, .int .i64 t411, .int .i64 t412, .int .i64 t413, .slice Ao44 t414.length co44, .string (⟨#[]⟩ : ByteArray), .int .i64 0]) ?_ 10 _ rfl; refine blk_put (cs := #[.int .i64 t405, .int .i64 t406, .int .i64 t407, .int .i64 t408, .int .i64 t409, .int .i64 t410, .int .i64 t411, .int .i64 t412, .int .i64 t413, .slice none 0 0, .string (⟨#[]⟩ : ByteArray), .int .i64 0]) ?_ 9 _ rfl; refine blk_put (cs := #[.int .i64 t405, .int .i64 t406, .int .i64 t407, .int .i64 t408, .int .i64 t409, .int .i64 t410, .int .i64 t411, .int .i64 t412, .int .i64 0, .slice none 0 0, .string (⟨#[]⟩ : ByteArray), .int .i64 0]) ?_ 8 _ rfl; refine blk_put (cs := #[.int .i64 t405, .int .i64 t406, .int .i64 t407, .int .i64 t408, .int .i64 t409, .int .i64 t410, .int .i64 t411, .int .i64 0, .int .i64 0, .slice none 0 0, .string (⟨#[]⟩ : ByteArray), .int .i64 0]) ?_ 7 _ rfl; refine blk_put (cs := #[.int .i64 t405, .int .i64 t406, .int .i64 t407, .int .i64 t408, .int .i64 t409, .int .i64 t410, .int .i64 0, .int .i64 0, .int .i64 0, .slice none 0 0, .string (⟨#[]⟩ : ByteArray), .int .i64 0]) ?_ 6 _ rfl; refine blk_put (cs := #[.int .i64 t405, .int .i64 t406, .int .i64 t407, .int .i64 t408, .int .i64 t409, .int .i64 0, .int .i64 0, .int .i64 0, .int .i64 0, .slice none 0 0, .string (⟨#[]⟩ : ByteArray), .int .i64 0]) ?_ 5 _ rfl; refine blk_put (cs := #[.int .i64 t405, .int .i64 t406, .int .i64 t407, .int .i64 t408, .int .i64 0, .int .i64 0, .int .i64 0, .int .i64 0, .int .i64 0, .slice none 0 0, .string (⟨#[]⟩ : ByteArray), .int .i64 0]) ?_ 4 _ rfl; refine blk_put (cs := #[.int .i64 t405, .int .i64 t406, .int .i64 t407, .int .i64 0, .int .i64 0, .int .i64 0, .int .i64 0, .int .i64 0, .int .i64 0, .slice none 0 0, .string (⟨#[]⟩ : ByteArray), .int .i64 0]) ?_ 3 _ rfl; refine blk_put (cs := #[.int .i64 t405, .int .i64 t406, .int .i64 0, .int .i64 0, .int .i64 0, .int .i64 0, .int .i64 0, .int .i64 0, .int .i64 0, .slice none 0 0, .string (⟨#[]⟩ : ByteArray), .int .i64 0]) ?_ 2 _ rfl; refine blk_put (cs := #[.int .i64 t405, .int .i64 0, .int .i64 0, .int .i64 0, .int .i64 0, .int .i64 0, .int .i64 0, .int .i64 0, .int .i64 0, .slice none 0 0, .string (⟨#[]⟩ : ByteArray), .int .i64 0]) ?_ 1 _ rfl; refine blk_put (cs := #[.int .i64 0, .int .i64 0, .int .i64 0, .int .i64 0, .int .i64 0, .int .i64 0, .int .i64 0, .int .i64 0, .int .i64 0, .slice none 0 0, .string (⟨#[]⟩ : ByteArray), .int .i64 0]) ?_ 0 _ rfl; exact BK420.out) hb); replace HB := Aside0.mk (below_step (below_set (below_set (below_set (below_set (below_set (below_set (below_set (below_set (below_set (below_set (below_set (below_set HB.out GE420.out) GE420.out) GE420.out) GE420.out) GE420.out) GE420.out) GE420.out) GE420.out) GE420.out) GE420.out) GE420.out) GE420.out) hb); clear hb) | (go_at_call 7; (with_reducible refine (ententelaw13_awake.calls kj14  t423 _ ?side1 A39.out).mono ?_); (case side1 => exact WH.below HWH_.out (HB.out)); rintro e w46 ⟨rfl, hb⟩; replace HO416 := Aside0.mk (Kd.R_below (by exact HO416.out) hb); replace BK382 := Aside0.mk (blk_below BK382.out hb); replace BK420 := Aside0.mk (blk_below BK420.out hb); replace HB := Aside0.mk (below_step (HB.out) hb); clear hb))
         go_ret
         exact ⟨by rfl, HB.out⟩
        ·rw [if_neg c38] at H
         exact absurd H (by simp)
       ·rw [if_neg c37] at H
        exact absurd H (by simp)
      ·rw [if_neg c35] at H
       have c35b0 : (t419 == 0) = false := beq_eq_false_iff_ne.mpr c35
       have c35b1 : (t419 != 0) = true := bne_iff_ne.mpr c35
       obtain ⟨t424, A470, H⟩ := Option.bind_eq_some_iff.mp H
       try dsimp only at H
       have A47 := Aside0.mk A470
       clear A470
       by_cases c48 : t424 = true
       ·subst c48
        have H1 : ((ententelaw13_awake.f kj14).bind fun t425 => (some t425)) = some r := by rw [if_pos rfl] at H; exact H
        clear H
        have H := H1
        clear H1
        obtain ⟨t425, A490, H⟩ := Option.bind_eq_some_iff.mp H
        try dsimp only at H
        have A49 := Aside0.mk A490
        clear A490
        obtain rfl := Option.some.inj H
        go_wp2_with (first | ((with_reducible refine gate_callee (f := 15) rfl ?_); refine goesL_ (some 50) rfl rfl Tryd.func15 (by kernel_rfl) rfl #[.string a1] rfl (by (try simp only [List.map_toArray, List.map_cons, List.map_nil]); rfl) ?_; (with_reducible refine (note_Decode.calls kj14 a1 t405 t406 t407 t408 t409 t410 t411 t412 t413 t414 t417 t418 t419 _ ?side1 A34.out).mono ?_); (case side1 => exact WH.below HWH_.out (HB.out)); rintro e w50 ⟨v415, rfl, ho0, hb⟩; refine ⟨_, rfl, ?_⟩; have HO416 := Aside0.mk (Kd.R_lower ho0 (below_size (HB.out))); replace BK382 := Aside0.mk (blk_below BK382.out hb); replace HB := Aside0.mk (below_step (HB.out) hb); clear hb ho0) | ((with_reducible refine gate_dst (N := 9) rfl ?_); (try (refine gate_guard (by rfl) ?_; dsimp only)); refine box_event ?hg (N := 9) ?hd (cs := #[.int .i64 0, .int .i64 0, .int .i64 0, .int .i64 0, .int .i64 0, .int .i64 0, .int .i64 0, .int .i64 0, .int .i64 0, .slice none 0 0, .string (⟨#[]⟩ : ByteArray), .int .i64 0]) (t := 39) ?hr ?_; (case hd => rfl); (case hg => rfl); (case hr => (go_simp; done)); intro gb420 hg w51 hbox hb; replace HO416 := Aside0.mk (Kd.R_below (by exact HO416.out) hb); have BK420 := Aside0.mk (hbox); have GW420 := Aside0.mk ((by rw [hg]; exact (below_size (HB.out)) : w.heap.size ≤ gb420)); have GE420 := Aside0.mk ((by rw [hg]; exact (below_size (HB.out)) : w.heap.size ≤ gb420)); replace HB := Aside0.mk (below_step (HB.out) hb); have NB382_420 := Aside0.mk ((by rw [hg]; exact Nat.ne_of_lt (blk_lt BK382.out) : gb382 ≠ gb420)); have NB420_382 := Aside0.mk ((by rw [hg]; exact Nat.ne_of_gt (blk_lt BK382.out) : gb420 ≠ gb382)); replace BK382 := Aside0.mk (blk_below BK382.out hb); clear hb hbox hg; have hnb52 := NB420_382.out; have hnc52 := NB382_420.out; obtain ⟨hcz53_0, hcz53_1, hcz53_2, hcz53_3, hcz53_4, hcz53_5, hcz53_6, hcz53_7, hcz53_8, hcz53_9, hcz53_10, hcz53_11⟩ := bc12 BK420.out; obtain ⟨hfz53_0, hfz53_1, hfz53_2, hfz53_3, hfz53_4, hfz53_5, hfz53_6, hfz53_7, hfz53_8, hfz53_9, hfz53_10, hfz53_11⟩ := bf12 BK420.out; obtain ⟨Ao54, co54, eo54⟩ := Kd.R_slice HO416.out; subst eo54) | ((with_reducible refine gate_callee (f := 16) rfl ?_); refine goesL_ (some 57) rfl rfl Tryd.func16 (by kernel_rfl) rfl #[.agg #[.int .i64 t405, .int .i64 t406, .int .i64 t407, .int .i64 t408, .int .i64 t409, .int .i64 t410, .int .i64 t411, .int .i64 t412, .int .i64 t413, .slice Ao54 t414.length co54, .string t417, .int .i64 t418], .agg #[.int .i64 0, .int .i64 0, .int .i64 0, .int .i64 0, .int .i64 0, .int .i64 0, .int .i64 0, .int .i64 0, .int .i64 0, .slice none 0 0, .string (⟨#[]⟩ : ByteArray), .int .i64 0]] rfl (by (try simp only [List.map_toArray, List.map_cons, List.map_nil]); rfl) ?_; (refine (ententeref13_Same.calls kj14 t405 t406 t407 t408 t409 t410 t411 t412 t413 _ _ t414 t417 t418 0 0 0 0 0 0 0 0 0 _ _ ([] : List (S50)) (⟨#[]⟩ : ByteArray) 0 true _ ?side1 ?side2 ?side3 ?side4 A47.out).mono ?_); (case side1 => refine (Kd.R_reads' (e := 50) (base := w.heap.size) (ok := fun k_ => True) (n := t414.length) (c := co54) ?_).2.2; exact (by exact (Kd.R_mono (Kd.R_far (p := ⟨gb420, 11, none⟩) (Kd.R_far (p := ⟨gb420, 10, none⟩) (Kd.R_far (p := ⟨gb420, 9, none⟩) (Kd.R_far (p := ⟨gb420, 8, none⟩) (Kd.R_far (p := ⟨gb420, 7, none⟩) (Kd.R_far (p := ⟨gb420, 6, none⟩) (Kd.R_far (p := ⟨gb420, 5, none⟩) (Kd.R_far (p := ⟨gb420, 4, none⟩) (Kd.R_far (p := ⟨gb420, 3, none⟩) (Kd.R_far (p := ⟨gb420, 2, none⟩) (Kd.R_far (p := ⟨gb420, 1, none⟩) (Kd.R_far (p := ⟨gb420, 0, none⟩) (Kd.R_types HO416.out BK420.out (by decide)) (fun _ hk => hk.2) (.int .i64 t405)) (fun _ hk => hk.2) (.int .i64 t406)) (fun _ hk => hk.2) (.int .i64 t407)) (fun _ hk => hk.2) (.int .i64 t408)) (fun _ hk => hk.2) (.int .i64 t409)) (fun _ hk => hk.2) (.int .i64 t410)) (fun _ hk => hk.2) (.int .i64 t411)) (fun _ hk => hk.2) (.int .i64 t412)) (fun _ hk => hk.2) (.int .i64 t413)) (fun _ hk => hk.2) (.slice Ao54 t414.length co54)) (fun _ hk => hk.2) (.string t417)) (fun _ hk => hk.2) (.int .i64 t418)) (fun _ h_ => h_.1)))); (case side2 => exact (Kd.R_reads' HO416.out).2.1); (case side3 => exact Kd.C_nil _ _); (case side4 => exact Nat.le_refl _); rintro e w55 ⟨rfl, hb⟩; refine ⟨_, rfl, ?_⟩; replace HO416 := Aside0.mk (Kd.R_below (by exact (Kd.R_mono (Kd.R_far (p := ⟨gb420, 11, none⟩) (Kd.R_far (p := ⟨gb420, 10, none⟩) (Kd.R_far (p := ⟨gb420, 9, none⟩) (Kd.R_far (p := ⟨gb420, 8, none⟩) (Kd.R_far (p := ⟨gb420, 7, none⟩) (Kd.R_far (p := ⟨gb420, 6, none⟩) (Kd.R_far (p := ⟨gb420, 5, none⟩) (Kd.R_far (p := ⟨gb420, 4, none⟩) (Kd.R_far (p := ⟨gb420, 3, none⟩) (Kd.R_far (p := ⟨gb420, 2, none⟩) (Kd.R_far (p := ⟨gb420, 1, none⟩) (Kd.R_far (p := ⟨gb420, 0, none⟩) (Kd.R_types HO416.out BK420.out (by decide)) (fun _ hk => hk.2) (.int .i64 t405)) (fun _ hk => hk.2) (.int .i64 t406)) (fun _ hk => hk.2) (.int .i64 t407)) (fun _ hk => hk.2) (.int .i64 t408)) (fun _ hk => hk.2) (.int .i64 t409)) (fun _ hk => hk.2) (.int .i64 t410)) (fun _ hk => hk.2) (.int .i64 t411)) (fun _ hk => hk.2) (.int .i64 t412)) (fun _ hk => hk.2) (.int .i64 t413)) (fun _ hk => hk.2) (.slice Ao54 t414.length co54)) (fun _ hk => hk.2) (.string t417)) (fun _ hk => hk.2) (.int .i64 t418)) (fun _ h_ => h_.1))) hb); replace BK382 := Aside0.mk (blk_below (g := gb382) (o := .cells #[.int .i64 a0_0, .int .i64 a0_1, .int .i64 a0_2, .int .i64 a0_3, .int .i64 a0_4, .int .i64 a0_5, .int .i64 a0_6, .int .i64 a0_7, .int .i64 a0_8, .slice A0_9 l0_9.length c0_9, .string a0_10, .int .i64 a0_11] 39 (0, 0)) (by refine blk_far ?_ NB382_420.out _; refine blk_far ?_ NB382_420.out _; refine blk_far ?_ NB382_420.out _; refine blk_far ?_ NB382_420.out _; refine blk_far ?_ NB382_420.out _; refine blk_far ?_ NB382_420.out _; refine blk_far ?_ NB382_420.out _; refine blk_far ?_ NB382_420.out _; refine blk_far ?_ NB382_420.out _; refine blk_far ?_ NB382_420.out _; refine blk_far ?_ NB382_420.out _; refine blk_far ?_ NB382_420.out _; exact BK382.out) hb); replace BK420 := Aside0.mk (blk_below (g := gb420) (o := .cells #[.int .i64 t405, .int .i64 t406, .int .i64 t407, .int .i64 t408, .int .i64 t409, .int .i64 t410, .int .i64 t411, .int .i64 t412, .int .i64 t413, .slice Ao54 t414.length co54, .string t417, .int .i64 t418] 39 (0, 0)) (by refine blk_put (cs := #[.int .i64 t405, .int .i64 t406, .int .i64 t407, .int .i64 t408, .int .i64 t409, .int .i64 t410, .int .i64 t411, .int .i64 t412, .int .i64 t413, .slice Ao54 t414.length co54, .string t417, .int .i64 0]) ?_ 11 _ rfl; refine blk_put (cs := #[.int .i64 t405, .int .i64 t406, .int .i64 t407, .int .i64 t408, .int .i64 t409, .int .i64 t410, .int .i64 t411, .int .i64 t412, .int .i64 t413, .slice Ao54 t414.length co54, .string (⟨#[]⟩ : ByteArray), .int .i64 0]) ?_ 10 _ rfl; refine blk_put (cs := #[.int .i64 t405, .int .i64 t406, .int .i64 t407, .int .i64 t408, .int .i64 t409, .int .i64 t410, .int .i64 t411, .int .i64 t412, .int .i64 t413, .slice none 0 0, .string (⟨#[]⟩ : ByteArray), .int .i64 0]) ?_ 9 _ rfl; refine blk_put (cs := #[.int .i64 t405, .int .i64 t406, .int .i64 t407, .int .i64 t408, .int .i64 t409, .int .i64 t410, .int .i64 t411, .int .i64 t412, .int .i64 0, .slice none 0 0, .string (⟨#[]⟩ : ByteArray), .int .i64 0]) ?_ 8 _ rfl; refine blk_put (cs := #[.int .i64 t405, .int .i64 t406, .int .i64 t407, .int .i64 t408, .int .i64 t409, .int .i64 t410, .int .i64 t411, .int .i64 0, .int .i64 0, .slice none 0 0, .string (⟨#[]⟩ : ByteArray), .int .i64 0]) ?_ 7 _ rfl; refine blk_put (cs := #[.int .i64 t405, .int .i64 t406, .int .i64 t407, .int .i64 t408, .int .i64 t409, .int .i64 t410, .int .i64 0, .int .i64 0, .int .i64 0, .slice none 0 0, .string (⟨#[]⟩ : ByteArray), .int .i64 0]) ?_ 6 _ rfl; refine blk_put (cs := #[.int .i64 t405, .int .i64 t406, .int .i64 t407, .int .i64 t408, .int .i64 t409, .int .i64 0, .int .i64 0, .int .i64 0, .int .i64 0, .slice none 0 0, .string (⟨#[]⟩ : ByteArray), .int .i64 0]) ?_ 5 _ rfl; refine blk_put (cs := #[.int .i64 t405, .int .i64 t406, .int .i64 t407, .int .i64 t408, .int .i64 0, .int .i64 0, .int .i64 0, .int .i64 0, .int .i64 0, .slice none 0 0, .string (⟨#[]⟩ : ByteArray), .int .i64 0]) ?_ 4 _ rfl; refine blk_put (cs := #[.int .i64 t405, .int .i64 t406, .int .i64 t407, .int .i64 0, .int .i64 0, .int .i64 0, .int .i64 0, .int .i64 0, .int .i64 0, .slice none 0 0, .string (⟨#[]⟩ : ByteArray), .int .i64 0]) ?_ 3 _ rfl; refine blk_put (cs := #[.int .i64 t405, .int .i64 t406, .int .i64 0, .int .i64 0, .int .i64 0, .int .i64 0, .int .i64 0, .int .i64 0, .int .i64 0, .slice none 0 0, .string (⟨#[]⟩ : ByteArray), .int .i64 0]) ?_ 2 _ rfl; refine blk_put (cs := #[.int .i64 t405, .int .i64 0, .int .i64 0, .int .i64 0, .int .i64 0, .int .i64 0, .int .i64 0, .int .i64 0, .int .i64 0, .slice none 0 0, .string (⟨#[]⟩ : ByteArray), .int .i64 0]) ?_ 1 _ rfl; refine blk_put (cs := #[.int .i64 0, .int .i64 0, .int .i64 0, .int .i64 0, .int .i64 0, .int .i64 0, .int .i64 0, .int .i64 0, .int .i64 0, .slice none 0 0, .string (⟨#[]⟩ : ByteArray), .int .i64 0]) ?_ 0 _ rfl; exact BK420.out) hb); replace HB := Aside0.mk (below_step (below_set (below_set (below_set (below_set (below_set (below_set (below_set (below_set (below_set (below_set (below_set (below_set HB.out GE420.out) GE420.out) GE420.out) GE420.out) GE420.out) GE420.out) GE420.out) GE420.out) GE420.out) GE420.out) GE420.out) GE420.out) hb); clear hb) | (go_at_call 7; (with_reducible refine (ententelaw13_awake.calls kj14  t425 _ ?side1 A49.out).mono ?_); (case side1 => exact WH.below HWH_.out (HB.out)); rintro e w56 ⟨rfl, hb⟩; replace HO416 := Aside0.mk (Kd.R_below (by exact HO416.out) hb); replace BK382 := Aside0.mk (blk_below BK382.out hb); replace BK420 := Aside0.mk (blk_below BK420.out hb); replace HB := Aside0.mk (below_step (HB.out) hb); clear hb))
        go_ret
        exact ⟨by rfl, HB.out⟩
       ·replace c48 := Bool.eq_false_iff.mpr c48
        subst c48
        have H1 : (none) = some r := by rw [if_neg (show ¬ (false = true) by decide)] at H; exact H
        clear H
        have H := H1
        clear H1
        exact absurd H (by simp)

end Go.Proofs.YtlaeihdldofkcaaDoor.PN

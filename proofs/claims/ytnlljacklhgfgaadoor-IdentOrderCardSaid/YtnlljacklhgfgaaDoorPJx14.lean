/- The machine side of this seat's laws: plain functions, and proofs that the calls do what they say; written by a program of this session over the translation; no conditions beyond those typed. -/
import Derived.Test.YtnlljacklhgfgaaDoorPJx0
import Derived.Test.YtnlljacklhgfgaaDoorPJx1
import Derived.Test.YtnlljacklhgfgaaDoorPJx3
import Derived.Test.YtnlljacklhgfgaaDoorPJx5
import Derived.Test.YtnlljacklhgfgaaDoorPJx7
import Derived.Test.YtnlljacklhgfgaaDoorPJx8
namespace Go.Proofs.YtnlljacklhgfgaaDoor.PI
open Go.RowKit Go.Proofs.YtnlljacklhgfgaaDoorW.PrintWords Go.Proofs.YtnlljacklhgfgaaDoorW.PrintLast Go.Proofs.YtnlljacklhgfgaaDoorW.PrintMore
attribute [local go_sem] max2_int min2_int max_two min_two max_three min_three max_four min_four   -- for this text's walks alone
set_option linter.unusedVariables false
set_option linter.unusedSimpArgs false

/-! ### ententelaw03_IdentOrder: function 7 -/
def ententelaw03_IdentOrder.j0 : Nat → Int → Bool → Int → Int → List (S55) → Int → Int → List (S55) → Option (Bool)
 | 0, _, _, _, _, _, _, _, _ => none
 | k + 1, x7, x72, x329000, x329001, x329002, x330000, x330001, x330002 => if x72 = true then (none) else ((ident_Parent.f x329000 x329001 x329002).bind fun bt347 => ((ententeref03_Same.f k x329000 x329001 x329002 x330000 x330001 x330002).bind fun t355 => (if ((x7 == 0) == t355) = true then (if bt347.2.2.2.2 = true then ((ident_Cmp.f k bt347.1 bt347.2.1 bt347.2.2.1 x329000 x329001 x329002).bind fun t356 => (if t356 = (-1) then ((ident_Under.f x329000 x329001 x329002 (([(⟨bt347.1, bt347.2.1, bt347.2.2.1⟩ : S24)] : List (S24)))).bind fun t360 => (if t360 = true then ((ident_Under.f bt347.1 bt347.2.1 bt347.2.2.1 (([(⟨x329000, x329001, x329002⟩ : S24)] : List (S24)))).bind fun t364 => (if t364 = true then (none) else ((ententelaw03_awake.f k).bind fun t365 => (some t365)))) else (none))) else (none))) else ((ententelaw03_awake.f k).bind fun t366 => (some t366))) else (none))))
def ententelaw03_IdentOrder.f (k : Nat) (a0_0 : Int) (a0_1 : Int) (l0_2 : List (S55)) (a1_0 : Int) (a1_1 : Int) (l1_2 : List (S55)) (a2_0 : Int) (a2_1 : Int) (l2_2 : List (S55)) : Option (Bool) := (ententelaw03_few.f k (([(⟨a0_0, a0_1, l0_2⟩ : S24), (⟨a1_0, a1_1, l1_2⟩ : S24), (⟨a2_0, a2_1, l2_2⟩ : S24)] : List (S24)))).bind fun t334 => (if t334 = true then ((ident_Cmp.f k a0_0 a0_1 l0_2 a1_0 a1_1 l1_2).bind fun t336 => ((ident_Cmp.f k a1_0 a1_1 l1_2 a2_0 a2_1 l2_2).bind fun t337 => ((ident_Cmp.f k a0_0 a0_1 l0_2 a2_0 a2_1 l2_2).bind fun t338 => ((ident_Cmp.f k a1_0 a1_1 l1_2 a0_0 a0_1 l0_2).bind fun t339 => (if t336 = (wrap64 (-t339)) then (if t336 < (-1) then (ententelaw03_IdentOrder.j0 k t336 true a0_0 a0_1 l0_2 a1_0 a1_1 l1_2) else (if t336 > 1 then (ententelaw03_IdentOrder.j0 k t336 true a0_0 a0_1 l0_2 a1_0 a1_1 l1_2) else (if t336 ≤ 0 then (if t337 ≤ 0 then (if t338 > 0 then (ententelaw03_IdentOrder.j0 k t336 true a0_0 a0_1 l0_2 a1_0 a1_1 l1_2) else (if t336 < 0 then (if t338 ≥ 0 then (ententelaw03_IdentOrder.j0 k t336 true a0_0 a0_1 l0_2 a1_0 a1_1 l1_2) else ((ident_Cmp.f k a0_0 a0_1 l0_2 a0_0 a0_1 l0_2).bind fun t340 => (ententelaw03_IdentOrder.j0 k t336 (t340 != 0) a0_0 a0_1 l0_2 a1_0 a1_1 l1_2))) else ((ident_Cmp.f k a0_0 a0_1 l0_2 a0_0 a0_1 l0_2).bind fun t341 => (ententelaw03_IdentOrder.j0 k t336 (t341 != 0) a0_0 a0_1 l0_2 a1_0 a1_1 l1_2)))) else (if t336 < 0 then ((ident_Cmp.f k a0_0 a0_1 l0_2 a0_0 a0_1 l0_2).bind fun t342 => (ententelaw03_IdentOrder.j0 k t336 (t342 != 0) a0_0 a0_1 l0_2 a1_0 a1_1 l1_2)) else ((ident_Cmp.f k a0_0 a0_1 l0_2 a0_0 a0_1 l0_2).bind fun t343 => (ententelaw03_IdentOrder.j0 k t336 (t343 != 0) a0_0 a0_1 l0_2 a1_0 a1_1 l1_2)))) else (if t336 < 0 then (if t337 ≤ 0 then (if t338 ≥ 0 then (ententelaw03_IdentOrder.j0 k t336 true a0_0 a0_1 l0_2 a1_0 a1_1 l1_2) else ((ident_Cmp.f k a0_0 a0_1 l0_2 a0_0 a0_1 l0_2).bind fun t344 => (ententelaw03_IdentOrder.j0 k t336 (t344 != 0) a0_0 a0_1 l0_2 a1_0 a1_1 l1_2))) else ((ident_Cmp.f k a0_0 a0_1 l0_2 a0_0 a0_1 l0_2).bind fun t345 => (ententelaw03_IdentOrder.j0 k t336 (t345 != 0) a0_0 a0_1 l0_2 a1_0 a1_1 l1_2))) else ((ident_Cmp.f k a0_0 a0_1 l0_2 a0_0 a0_1 l0_2).bind fun t346 => (ententelaw03_IdentOrder.j0 k t336 (t346 != 0) a0_0 a0_1 l0_2 a1_0 a1_1 l1_2)))))) else (ententelaw03_IdentOrder.j0 k t336 true a0_0 a0_1 l0_2 a1_0 a1_1 l1_2)))))) else ((ententelaw03_awake.f k).bind fun t335 => (some t335)))
theorem ententelaw03_IdentOrder.mono_l : ∀ k, (∀ y0 y1 y2 y3 y4 y5 y6 y7, LeO (ententelaw03_IdentOrder.j0 k y0 y1 y2 y3 y4 y5 y6 y7) (ententelaw03_IdentOrder.j0 (k + 1) y0 y1 y2 y3 y4 y5 y6 y7))
 | 0 => fun _ _ _ _ _ _ _ _ r h => by simp [ententelaw03_IdentOrder.j0] at h
 | k + 1 => by
  have ih0 := ententelaw03_IdentOrder.mono_l k
  ·intro y0 y1 y2 y3 y4 y5 y6 y7
   unfold ententelaw03_IdentOrder.j0
   repeat' first
   | (with_reducible exact ih0 _ _ _ _ _ _ _ _)
   | (with_reducible exact ententelaw03_awake.mono _)
   | (with_reducible exact ententelaw03_few.mono _ _)
   | (with_reducible exact ententeref03_Same.mono _ _ _ _ _ _ _)
   | (with_reducible exact ident_Cmp.mono _ _ _ _ _ _ _)
   | (with_reducible exact LeO.refl _)
   | (with_reducible exact LeO.none _)
   | (with_reducible refine LeO.ite ?_ ?_)
   | (with_reducible refine LeO.bind ?_ (fun _ => ?_))
   | exact ih0 _ _ _ _ _ _ _ _
   | exact ententelaw03_awake.mono _
   | exact ententelaw03_few.mono _ _
   | exact ententeref03_Same.mono _ _ _ _ _ _ _
   | exact ident_Cmp.mono _ _ _ _ _ _ _
   | exact LeO.none _
   | refine LeO.ite ?_ ?_
   | refine LeO.bind ?_ (fun _ => ?_)
theorem ententelaw03_IdentOrder.mono : ∀ a0 a1 a2 a3 a4 a5 a6 a7 a8 k, LeO (ententelaw03_IdentOrder.f k a0 a1 a2 a3 a4 a5 a6 a7 a8) (ententelaw03_IdentOrder.f (k + 1) a0 a1 a2 a3 a4 a5 a6 a7 a8) := by
 intro a0 a1 a2 a3 a4 a5 a6 a7 a8 k
 have ih0 := ententelaw03_IdentOrder.mono_l k
 unfold ententelaw03_IdentOrder.f
 repeat' first
   | (with_reducible exact ih0 _ _ _ _ _ _ _ _)
   | (with_reducible exact ententelaw03_awake.mono _)
   | (with_reducible exact ententelaw03_few.mono _ _)
   | (with_reducible exact ententeref03_Same.mono _ _ _ _ _ _ _)
   | (with_reducible exact ident_Cmp.mono _ _ _ _ _ _ _)
   | (with_reducible exact LeO.refl _)
   | (with_reducible exact LeO.none _)
   | (with_reducible refine LeO.ite ?_ ?_)
   | (with_reducible refine LeO.bind ?_ (fun _ => ?_))
   | exact ih0 _ _ _ _ _ _ _ _
   | exact ententelaw03_awake.mono _
   | exact ententelaw03_few.mono _ _
   | exact ententeref03_Same.mono _ _ _ _ _ _ _
   | exact ident_Cmp.mono _ _ _ _ _ _ _
   | exact LeO.none _
   | refine LeO.ite ?_ ?_
   | refine LeO.bind ?_ (fun _ => ?_)
def ententelaw03_IdentOrder.T3 : Bool × List (List Nat × List Nat) := (true, [([], []), ([], []), ([0, 1], [0, 1]), ([], []), ([], []), ([3, 4, 2], [3, 4]), ([], []), ([], []), ([6, 7, 5], [6, 7]), ([2, 8, 0, 1, 2], [2]), ([5, 9, 0, 1, 2, 3, 4, 5, 9], [5]), ([8, 10, 0, 1, 2, 3, 4, 5, 6, 7, 8, 9, 10], [8])])
def ententelaw03_IdentOrder.B3 : List Nat := [0, 0, 3, 0, 0, 31, 0, 0, 255, 511, 1023, 2047]
theorem ententelaw03_IdentOrder.tab3 : rtab .any (opsOf Tryd.f7 3) = ententelaw03_IdentOrder.T3 := by kernel_rfl
theorem ententelaw03_IdentOrder.bits3 : waitsOk ententelaw03_IdentOrder.T3.2 ententelaw03_IdentOrder.B3 = true := by kernel_rfl
set_option maxHeartbeats 8000000 in
set_option maxRecDepth 100000 in
theorem ententelaw03_IdentOrder.calls (k : Nat) (a0_0 : Int) (a0_1 : Int) (P0_2_ : Nat → Prop) (A0_2 : Option Addr) (c0_2 : Nat) (l0_2 : List (S55)) (a1_0 : Int) (a1_1 : Int) (P1_2_ : Nat → Prop) (A1_2 : Option Addr) (c1_2 : Nat) (l1_2 : List (S55)) (a2_0 : Int) (a2_1 : Int) (P2_2_ : Nat → Prop) (A2_2 : Option Addr) (c2_2 : Nat) (l2_2 : List (S55)) (r : Bool) (w : World) (hs0_2 : Kd.V k55 55 w w.heap.size (fun k_ => P0_2_ k_) (.slice A0_2 l0_2.length c0_2) l0_2) (hs1_2 : Kd.V k55 55 w w.heap.size (fun k_ => P1_2_ k_) (.slice A1_2 l1_2.length c1_2) l1_2) (hs2_2 : Kd.V k55 55 w w.heap.size (fun k_ => P2_2_ k_) (.slice A2_2 l2_2.length c2_2) l2_2) (hw_ : WH w) (h : ententelaw03_IdentOrder.f k a0_0 a0_1 l0_2 a1_0 a1_1 l1_2 a2_0 a2_1 l2_2 = some r) :
  Calls Tryd.prog 7 #[.agg #[.int .i64 a0_0, .int .i64 a0_1, .slice A0_2 l0_2.length c0_2], .agg #[.int .i64 a1_0, .int .i64 a1_1, .slice A1_2 l1_2.length c1_2], .agg #[.int .i64 a2_0, .int .i64 a2_1, .slice A2_2 l2_2.length c2_2]] w fun e w' => e = .returned (.bool r) ∧ Below w.heap.size w w' := by
 have hu24 := Tryd.underlying24
 have HO0_2 := Aside0.mk (show Kd.V k55 55 w w.heap.size (fun k_ => ((P0_2_ k_ ∨ P1_2_ k_ ∨ P2_2_ k_) ∨ w.heap.size ≤ k_)) (.slice A0_2 l0_2.length c0_2) l0_2 from Kd.V_mono hs0_2 (fun k_ hk => .inl (.inl hk)))
 have HO1_2 := Aside0.mk (show Kd.V k55 55 w w.heap.size (fun k_ => ((P0_2_ k_ ∨ P1_2_ k_ ∨ P2_2_ k_) ∨ w.heap.size ≤ k_)) (.slice A1_2 l1_2.length c1_2) l1_2 from Kd.V_mono hs1_2 (fun k_ hk => .inl (.inr (.inl hk))))
 have HO2_2 := Aside0.mk (show Kd.V k55 55 w w.heap.size (fun k_ => ((P0_2_ k_ ∨ P1_2_ k_ ∨ P2_2_ k_) ∨ w.heap.size ≤ k_)) (.slice A2_2 l2_2.length c2_2) l2_2 from Kd.V_mono hs2_2 (fun k_ hk => .inl (.inr (.inr hk))))
 have HWH_ := Aside0.mk hw_
 clear hw_
 have HB := Aside0.mk (Below.refl w.heap.size w)
 have H : ((ententelaw03_few.f k (([(⟨a0_0, a0_1, l0_2⟩ : S24), (⟨a1_0, a1_1, l1_2⟩ : S24), (⟨a2_0, a2_1, l2_2⟩ : S24)] : List (S24)))).bind fun t334 => (if t334 = true then ((ident_Cmp.f k a0_0 a0_1 l0_2 a1_0 a1_1 l1_2).bind fun t336 => ((ident_Cmp.f k a1_0 a1_1 l1_2 a2_0 a2_1 l2_2).bind fun t337 => ((ident_Cmp.f k a0_0 a0_1 l0_2 a2_0 a2_1 l2_2).bind fun t338 => ((ident_Cmp.f k a1_0 a1_1 l1_2 a0_0 a0_1 l0_2).bind fun t339 => (if t336 = (wrap64 (-t339)) then (if t336 < (-1) then (ententelaw03_IdentOrder.j0 k t336 true a0_0 a0_1 l0_2 a1_0 a1_1 l1_2) else (if t336 > 1 then (ententelaw03_IdentOrder.j0 k t336 true a0_0 a0_1 l0_2 a1_0 a1_1 l1_2) else (if t336 ≤ 0 then (if t337 ≤ 0 then (if t338 > 0 then (ententelaw03_IdentOrder.j0 k t336 true a0_0 a0_1 l0_2 a1_0 a1_1 l1_2) else (if t336 < 0 then (if t338 ≥ 0 then (ententelaw03_IdentOrder.j0 k t336 true a0_0 a0_1 l0_2 a1_0 a1_1 l1_2) else ((ident_Cmp.f k a0_0 a0_1 l0_2 a0_0 a0_1 l0_2).bind fun t340 => (ententelaw03_IdentOrder.j0 k t336 (t340 != 0) a0_0 a0_1 l0_2 a1_0 a1_1 l1_2))) else ((ident_Cmp.f k a0_0 a0_1 l0_2 a0_0 a0_1 l0_2).bind fun t341 => (ententelaw03_IdentOrder.j0 k t336 (t341 != 0) a0_0 a0_1 l0_2 a1_0 a1_1 l1_2)))) else (if t336 < 0 then ((ident_Cmp.f k a0_0 a0_1 l0_2 a0_0 a0_1 l0_2).bind fun t342 => (ententelaw03_IdentOrder.j0 k t336 (t342 != 0) a0_0 a0_1 l0_2 a1_0 a1_1 l1_2)) else ((ident_Cmp.f k a0_0 a0_1 l0_2 a0_0 a0_1 l0_2).bind fun t343 => (ententelaw03_IdentOrder.j0 k t336 (t343 != 0) a0_0 a0_1 l0_2 a1_0 a1_1 l1_2)))) else (if t336 < 0 then (if t337 ≤ 0 then (if t338 ≥ 0 then (ententelaw03_IdentOrder.j0 k t336 true a0_0 a0_1 l0_2 a1_0 a1_1 l1_2) else ((ident_Cmp.f k a0_0 a0_1 l0_2 a0_0 a0_1 l0_2).bind fun t344 => (ententelaw03_IdentOrder.j0 k t336 (t344 != 0) a0_0 a0_1 l0_2 a1_0 a1_1 l1_2))) else ((ident_Cmp.f k a0_0 a0_1 l0_2 a0_0 a0_1 l0_2).bind fun t345 => (ententelaw03_IdentOrder.j0 k t336 (t345 != 0) a0_0 a0_1 l0_2 a1_0 a1_1 l1_2))) else ((ident_Cmp.f k a0_0 a0_1 l0_2 a0_0 a0_1 l0_2).bind fun t346 => (ententelaw03_IdentOrder.j0 k t336 (t346 != 0) a0_0 a0_1 l0_2 a1_0 a1_1 l1_2)))))) else (ententelaw03_IdentOrder.j0 k t336 true a0_0 a0_1 l0_2 a1_0 a1_1 l1_2)))))) else ((ententelaw03_awake.f k).bind fun t335 => (some t335)))) = some r := h
 clear h
 obtain ⟨y331, hy331⟩ : ∃ y_ : List (S24), y_ = (([(⟨a0_0, a0_1, l0_2⟩ : S24), (⟨a1_0, a1_1, l1_2⟩ : S24), (⟨a2_0, a2_1, l2_2⟩ : S24)] : List (S24))) := ⟨_, rfl⟩
 replace H : ((ententelaw03_few.f k y331).bind fun t334 => (if t334 = true then ((ident_Cmp.f k a0_0 a0_1 l0_2 a1_0 a1_1 l1_2).bind fun t336 => ((ident_Cmp.f k a1_0 a1_1 l1_2 a2_0 a2_1 l2_2).bind fun t337 => ((ident_Cmp.f k a0_0 a0_1 l0_2 a2_0 a2_1 l2_2).bind fun t338 => ((ident_Cmp.f k a1_0 a1_1 l1_2 a0_0 a0_1 l0_2).bind fun t339 => (if t336 = (wrap64 (-t339)) then (if t336 < (-1) then (ententelaw03_IdentOrder.j0 k t336 true a0_0 a0_1 l0_2 a1_0 a1_1 l1_2) else (if t336 > 1 then (ententelaw03_IdentOrder.j0 k t336 true a0_0 a0_1 l0_2 a1_0 a1_1 l1_2) else (if t336 ≤ 0 then (if t337 ≤ 0 then (if t338 > 0 then (ententelaw03_IdentOrder.j0 k t336 true a0_0 a0_1 l0_2 a1_0 a1_1 l1_2) else (if t336 < 0 then (if t338 ≥ 0 then (ententelaw03_IdentOrder.j0 k t336 true a0_0 a0_1 l0_2 a1_0 a1_1 l1_2) else ((ident_Cmp.f k a0_0 a0_1 l0_2 a0_0 a0_1 l0_2).bind fun t340 => (ententelaw03_IdentOrder.j0 k t336 (t340 != 0) a0_0 a0_1 l0_2 a1_0 a1_1 l1_2))) else ((ident_Cmp.f k a0_0 a0_1 l0_2 a0_0 a0_1 l0_2).bind fun t341 => (ententelaw03_IdentOrder.j0 k t336 (t341 != 0) a0_0 a0_1 l0_2 a1_0 a1_1 l1_2)))) else (if t336 < 0 then ((ident_Cmp.f k a0_0 a0_1 l0_2 a0_0 a0_1 l0_2).bind fun t342 => (ententelaw03_IdentOrder.j0 k t336 (t342 != 0) a0_0 a0_1 l0_2 a1_0 a1_1 l1_2)) else ((ident_Cmp.f k a0_0 a0_1 l0_2 a0_0 a0_1 l0_2).bind fun t343 => (ententelaw03_IdentOrder.j0 k t336 (t343 != 0) a0_0 a0_1 l0_2 a1_0 a1_1 l1_2)))) else (if t336 < 0 then (if t337 ≤ 0 then (if t338 ≥ 0 then (ententelaw03_IdentOrder.j0 k t336 true a0_0 a0_1 l0_2 a1_0 a1_1 l1_2) else ((ident_Cmp.f k a0_0 a0_1 l0_2 a0_0 a0_1 l0_2).bind fun t344 => (ententelaw03_IdentOrder.j0 k t336 (t344 != 0) a0_0 a0_1 l0_2 a1_0 a1_1 l1_2))) else ((ident_Cmp.f k a0_0 a0_1 l0_2 a0_0 a0_1 l0_2).bind fun t345 => (ententelaw03_IdentOrder.j0 k t336 (t345 != 0) a0_0 a0_1 l0_2 a1_0 a1_1 l1_2))) else ((ident_Cmp.f k a0_0 a0_1 l0_2 a0_0 a0_1 l0_2).bind fun t346 => (ententelaw03_IdentOrder.j0 k t336 (t346 != 0) a0_0 a0_1 l0_2 a1_0 a1_1 l1_2)))))) else (ententelaw03_IdentOrder.j0 k t336 true a0_0 a0_1 l0_2 a1_0 a1_1 l1_2)))))) else ((ententelaw03_awake.f k).bind fun t335 => (some t335)))) = some r := by first | (rw [hy331]; with_reducible exact H) | (have H2_ := (Option.bind_some _ _).symm.trans H; rw [hy331]; with_reducible exact H2_) | (have H2_ := (Option.bind_some _ _).symm.trans H; with_reducible exact H2_) | with_reducible exact H | (rw [hy331]; exact H) | exact H
 have Ny331 := Aside0.mk hy331
 clear hy331
 replace H := Option.bind_eq_some_iff.mp H
 obtain ⟨t334, A40, H⟩ := H
 replace H : (if t334 = true then ((ident_Cmp.f k a0_0 a0_1 l0_2 a1_0 a1_1 l1_2).bind fun t336 => ((ident_Cmp.f k a1_0 a1_1 l1_2 a2_0 a2_1 l2_2).bind fun t337 => ((ident_Cmp.f k a0_0 a0_1 l0_2 a2_0 a2_1 l2_2).bind fun t338 => ((ident_Cmp.f k a1_0 a1_1 l1_2 a0_0 a0_1 l0_2).bind fun t339 => (if t336 = (wrap64 (-t339)) then (if t336 < (-1) then (ententelaw03_IdentOrder.j0 k t336 true a0_0 a0_1 l0_2 a1_0 a1_1 l1_2) else (if t336 > 1 then (ententelaw03_IdentOrder.j0 k t336 true a0_0 a0_1 l0_2 a1_0 a1_1 l1_2) else (if t336 ≤ 0 then (if t337 ≤ 0 then (if t338 > 0 then (ententelaw03_IdentOrder.j0 k t336 true a0_0 a0_1 l0_2 a1_0 a1_1 l1_2) else (if t336 < 0 then (if t338 ≥ 0 then (ententelaw03_IdentOrder.j0 k t336 true a0_0 a0_1 l0_2 a1_0 a1_1 l1_2) else ((ident_Cmp.f k a0_0 a0_1 l0_2 a0_0 a0_1 l0_2).bind fun t340 => (ententelaw03_IdentOrder.j0 k t336 (t340 != 0) a0_0 a0_1 l0_2 a1_0 a1_1 l1_2))) else ((ident_Cmp.f k a0_0 a0_1 l0_2 a0_0 a0_1 l0_2).bind fun t341 => (ententelaw03_IdentOrder.j0 k t336 (t341 != 0) a0_0 a0_1 l0_2 a1_0 a1_1 l1_2)))) else (if t336 < 0 then ((ident_Cmp.f k a0_0 a0_1 l0_2 a0_0 a0_1 l0_2).bind fun t342 => (ententelaw03_IdentOrder.j0 k t336 (t342 != 0) a0_0 a0_1 l0_2 a1_0 a1_1 l1_2)) else ((ident_Cmp.f k a0_0 a0_1 l0_2 a0_0 a0_1 l0_2).bind fun t343 => (ententelaw03_IdentOrder.j0 k t336 (t343 != 0) a0_0 a0_1 l0_2 a1_0 a1_1 l1_2)))) else (if t336 < 0 then (if t337 ≤ 0 then (if t338 ≥ 0 then (ententelaw03_IdentOrder.j0 k t336 true a0_0 a0_1 l0_2 a1_0 a1_1 l1_2) else ((ident_Cmp.f k a0_0 a0_1 l0_2 a0_0 a0_1 l0_2).bind fun t344 => (ententelaw03_IdentOrder.j0 k t336 (t344 != 0) a0_0 a0_1 l0_2 a1_0 a1_1 l1_2))) else ((ident_Cmp.f k a0_0 a0_1 l0_2 a0_0 a0_1 l0_2).bind fun t345 => (ententelaw03_IdentOrder.j0 k t336 (t345 != 0) a0_0 a0_1 l0_2 a1_0 a1_1 l1_2))) else ((ident_Cmp.f k a0_0 a0_1 l0_2 a0_0 a0_1 l0_2).bind fun t346 => (ententelaw03_IdentOrder.j0 k t336 (t346 != 0) a0_0 a0_1 l0_2 a1_0 a1_1 l1_2)))))) else (ententelaw03_IdentOrder.j0 k t336 true a0_0 a0_1 l0_2 a1_0 a1_1 l1_2)))))) else ((ententelaw03_awake.f k).bind fun t335 => (some t335))) = some r := H
 have A4 := Aside0.mk A40
 clear A40
 by_cases c5 : t334 = true
 ·subst c5
  have H1 : ((ident_Cmp.f k a0_0 a0_1 l0_2 a1_0 a1_1 l1_2).bind fun t336 => ((ident_Cmp.f k a1_0 a1_1 l1_2 a2_0 a2_1 l2_2).bind fun t337 => ((ident_Cmp.f k a0_0 a0_1 l0_2 a2_0 a2_1 l2_2).bind fun t338 => ((ident_Cmp.f k a1_0 a1_1 l1_2 a0_0 a0_1 l0_2).bind fun t339 => (if t336 = (wrap64 (-t339)) then (if t336 < (-1) then (ententelaw03_IdentOrder.j0 k t336 true a0_0 a0_1 l0_2 a1_0 a1_1 l1_2) else (if t336 > 1 then (ententelaw03_IdentOrder.j0 k t336 true a0_0 a0_1 l0_2 a1_0 a1_1 l1_2) else (if t336 ≤ 0 then (if t337 ≤ 0 then (if t338 > 0 then (ententelaw03_IdentOrder.j0 k t336 true a0_0 a0_1 l0_2 a1_0 a1_1 l1_2) else (if t336 < 0 then (if t338 ≥ 0 then (ententelaw03_IdentOrder.j0 k t336 true a0_0 a0_1 l0_2 a1_0 a1_1 l1_2) else ((ident_Cmp.f k a0_0 a0_1 l0_2 a0_0 a0_1 l0_2).bind fun t340 => (ententelaw03_IdentOrder.j0 k t336 (t340 != 0) a0_0 a0_1 l0_2 a1_0 a1_1 l1_2))) else ((ident_Cmp.f k a0_0 a0_1 l0_2 a0_0 a0_1 l0_2).bind fun t341 => (ententelaw03_IdentOrder.j0 k t336 (t341 != 0) a0_0 a0_1 l0_2 a1_0 a1_1 l1_2)))) else (if t336 < 0 then ((ident_Cmp.f k a0_0 a0_1 l0_2 a0_0 a0_1 l0_2).bind fun t342 => (ententelaw03_IdentOrder.j0 k t336 (t342 != 0) a0_0 a0_1 l0_2 a1_0 a1_1 l1_2)) else ((ident_Cmp.f k a0_0 a0_1 l0_2 a0_0 a0_1 l0_2).bind fun t343 => (ententelaw03_IdentOrder.j0 k t336 (t343 != 0) a0_0 a0_1 l0_2 a1_0 a1_1 l1_2)))) else (if t336 < 0 then (if t337 ≤ 0 then (if t338 ≥ 0 then (ententelaw03_IdentOrder.j0 k t336 true a0_0 a0_1 l0_2 a1_0 a1_1 l1_2) else ((ident_Cmp.f k a0_0 a0_1 l0_2 a0_0 a0_1 l0_2).bind fun t344 => (ententelaw03_IdentOrder.j0 k t336 (t344 != 0) a0_0 a0_1 l0_2 a1_0 a1_1 l1_2))) else ((ident_Cmp.f k a0_0 a0_1 l0_2 a0_0 a0_1 l0_2).bind fun t345 => (ententelaw03_IdentOrder.j0 k t336 (t345 != 0) a0_0 a0_1 l0_2 a1_0 a1_1 l1_2))) else ((ident_Cmp.f k a0_0 a0_1 l0_2 a0_0 a0_1 l0_2).bind fun t346 => (ententelaw03_IdentOrder.j0 k t336 (t346 != 0) a0_0 a0_1 l0_2 a1_0 a1_1 l1_2)))))) else (ententelaw03_IdentOrder.j0 k t336 true a0_0 a0_1 l0_2 a1_0 a1_1 l1_2)))))) = some r := by rw [if_pos rfl] at H; exact H
  clear H
  have H := H1
  clear H1
  replace H := Option.bind_eq_some_iff.mp H
  obtain ⟨t336, A60, H⟩ := H
  replace H : ((ident_Cmp.f k a1_0 a1_1 l1_2 a2_0 a2_1 l2_2).bind fun t337 => ((ident_Cmp.f k a0_0 a0_1 l0_2 a2_0 a2_1 l2_2).bind fun t338 => ((ident_Cmp.f k a1_0 a1_1 l1_2 a0_0 a0_1 l0_2).bind fun t339 => (if t336 = (wrap64 (-t339)) then (if t336 < (-1) then (ententelaw03_IdentOrder.j0 k t336 true a0_0 a0_1 l0_2 a1_0 a1_1 l1_2) else (if t336 > 1 then (ententelaw03_IdentOrder.j0 k t336 true a0_0 a0_1 l0_2 a1_0 a1_1 l1_2) else (if t336 ≤ 0 then (if t337 ≤ 0 then (if t338 > 0 then (ententelaw03_IdentOrder.j0 k t336 true a0_0 a0_1 l0_2 a1_0 a1_1 l1_2) else (if t336 < 0 then (if t338 ≥ 0 then (ententelaw03_IdentOrder.j0 k t336 true a0_0 a0_1 l0_2 a1_0 a1_1 l1_2) else ((ident_Cmp.f k a0_0 a0_1 l0_2 a0_0 a0_1 l0_2).bind fun t340 => (ententelaw03_IdentOrder.j0 k t336 (t340 != 0) a0_0 a0_1 l0_2 a1_0 a1_1 l1_2))) else ((ident_Cmp.f k a0_0 a0_1 l0_2 a0_0 a0_1 l0_2).bind fun t341 => (ententelaw03_IdentOrder.j0 k t336 (t341 != 0) a0_0 a0_1 l0_2 a1_0 a1_1 l1_2)))) else (if t336 < 0 then ((ident_Cmp.f k a0_0 a0_1 l0_2 a0_0 a0_1 l0_2).bind fun t342 => (ententelaw03_IdentOrder.j0 k t336 (t342 != 0) a0_0 a0_1 l0_2 a1_0 a1_1 l1_2)) else ((ident_Cmp.f k a0_0 a0_1 l0_2 a0_0 a0_1 l0_2).bind fun t343 => (ententelaw03_IdentOrder.j0 k t336 (t343 != 0) a0_0 a0_1 l0_2 a1_0 a1_1 l1_2)))) else (if t336 < 0 then (if t337 ≤ 0 then (if t338 ≥ 0 then (ententelaw03_IdentOrder.j0 k t336 true a0_0 a0_1 l0_2 a1_0 a1_1 l1_2) else ((ident_Cmp.f k a0_0 a0_1 l0_2 a0_0 a0_1 l0_2).bind fun t344 => (ententelaw03_IdentOrder.j0 k t336 (t344 != 0) a0_0 a0_1 l0_2 a1_0 a1_1 l1_2))) else ((ident_Cmp.f k a0_0 a0_1 l0_2 a0_0 a0_1 l0_2).bind fun t345 => (ententelaw03_IdentOrder.j0 k t336 (t345 != 0) a0_0 a0_1 l0_2 a1_0 a1_1 l1_2))) else ((ident_Cmp.f k a0_0 a0_1 l0_2 a0_0 a0_1 l0_2).bind fun t346 => (ententelaw03_IdentOrder.j0 k t336 (t346 != 0) a0_0 a0_1 l0_2 a1_0 a1_1 l1_2)))))) else (ententelaw03_IdentOrder.j0 k t336 true a0_0 a0_1 l0_2 a1_0 a1_1 l1_2))))) = some r := H
  have A6 := Aside0.mk A60
  clear A60
  replace H := Option.bind_eq_some_iff.mp H
  obtain ⟨t337, A70, H⟩ := H
  replace H : ((ident_Cmp.f k a0_0 a0_1 l0_2 a2_0 a2_1 l2_2).bind fun t338 => ((ident_Cmp.f k a1_0 a1_1 l1_2 a0_0 a0_1 l0_2).bind fun t339 => (if t336 = (wrap64 (-t339)) then (if t336 < (-1) then (ententelaw03_IdentOrder.j0 k t336 true a0_0 a0_1 l0_2 a1_0 a1_1 l1_2) else (if t336 > 1 then (ententelaw03_IdentOrder.j0 k t336 true a0_0 a0_1 l0_2 a1_0 a1_1 l1_2) else (if t336 ≤ 0 then (if t337 ≤ 0 then (if t338 > 0 then (ententelaw03_IdentOrder.j0 k t336 true a0_0 a0_1 l0_2 a1_0 a1_1 l1_2) else (if t336 < 0 then (if t338 ≥ 0 then (ententelaw03_IdentOrder.j0 k t336 true a0_0 a0_1 l0_2 a1_0 a1_1 l1_2) else ((ident_Cmp.f k a0_0 a0_1 l0_2 a0_0 a0_1 l0_2).bind fun t340 => (ententelaw03_IdentOrder.j0 k t336 (t340 != 0) a0_0 a0_1 l0_2 a1_0 a1_1 l1_2))) else ((ident_Cmp.f k a0_0 a0_1 l0_2 a0_0 a0_1 l0_2).bind fun t341 => (ententelaw03_IdentOrder.j0 k t336 (t341 != 0) a0_0 a0_1 l0_2 a1_0 a1_1 l1_2)))) else (if t336 < 0 then ((ident_Cmp.f k a0_0 a0_1 l0_2 a0_0 a0_1 l0_2).bind fun t342 => (ententelaw03_IdentOrder.j0 k t336 (t342 != 0) a0_0 a0_1 l0_2 a1_0 a1_1 l1_2)) else ((ident_Cmp.f k a0_0 a0_1 l0_2 a0_0 a0_1 l0_2).bind fun t343 => (ententelaw03_IdentOrder.j0 k t336 (t343 != 0) a0_0 a0_1 l0_2 a1_0 a1_1 l1_2)))) else (if t336 < 0 then (if t337 ≤ 0 then (if t338 ≥ 0 then (ententelaw03_IdentOrder.j0 k t336 true a0_0 a0_1 l0_2 a1_0 a1_1 l1_2) else ((ident_Cmp.f k a0_0 a0_1 l0_2 a0_0 a0_1 l0_2).bind fun t344 => (ententelaw03_IdentOrder.j0 k t336 (t344 != 0) a0_0 a0_1 l0_2 a1_0 a1_1 l1_2))) else ((ident_Cmp.f k a0_0 a0_1 l0_2 a0_0 a0_1 l0_2).bind fun t345 => (ententelaw03_IdentOrder.j0 k t336 (t345 != 0) a0_0 a0_1 l0_2 a1_0 a1_1 l1_2))) else ((ident_Cmp.f k a0_0 a0_1 l0_2 a0_0 a0_1 l0_2).bind fun t346 => (ententelaw03_IdentOrder.j0 k t336 (t346 != 0) a0_0 a0_1 l0_2 a1_0 a1_1 l1_2)))))) else (ententelaw03_IdentOrder.j0 k t336 true a0_0 a0_1 l0_2 a1_0 a1_1 l1_2)))) = some r := H
  have A7 := Aside0.mk A70
  clear A70
  replace H := Option.bind_eq_some_iff.mp H
  obtain ⟨t338, A80, H⟩ := H
  replace H : ((ident_Cmp.f k a1_0 a1_1 l1_2 a0_0 a0_1 l0_2).bind fun t339 => (if t336 = (wrap64 (-t339)) then (if t336 < (-1) then (ententelaw03_IdentOrder.j0 k t336 true a0_0 a0_1 l0_2 a1_0 a1_1 l1_2) else (if t336 > 1 then (ententelaw03_IdentOrder.j0 k t336 true a0_0 a0_1 l0_2 a1_0 a1_1 l1_2) else (if t336 ≤ 0 then (if t337 ≤ 0 then (if t338 > 0 then (ententelaw03_IdentOrder.j0 k t336 true a0_0 a0_1 l0_2 a1_0 a1_1 l1_2) else (if t336 < 0 then (if t338 ≥ 0 then (ententelaw03_IdentOrder.j0 k t336 true a0_0 a0_1 l0_2 a1_0 a1_1 l1_2) else ((ident_Cmp.f k a0_0 a0_1 l0_2 a0_0 a0_1 l0_2).bind fun t340 => (ententelaw03_IdentOrder.j0 k t336 (t340 != 0) a0_0 a0_1 l0_2 a1_0 a1_1 l1_2))) else ((ident_Cmp.f k a0_0 a0_1 l0_2 a0_0 a0_1 l0_2).bind fun t341 => (ententelaw03_IdentOrder.j0 k t336 (t341 != 0) a0_0 a0_1 l0_2 a1_0 a1_1 l1_2)))) else (if t336 < 0 then ((ident_Cmp.f k a0_0 a0_1 l0_2 a0_0 a0_1 l0_2).bind fun t342 => (ententelaw03_IdentOrder.j0 k t336 (t342 != 0) a0_0 a0_1 l0_2 a1_0 a1_1 l1_2)) else ((ident_Cmp.f k a0_0 a0_1 l0_2 a0_0 a0_1 l0_2).bind fun t343 => (ententelaw03_IdentOrder.j0 k t336 (t343 != 0) a0_0 a0_1 l0_2 a1_0 a1_1 l1_2)))) else (if t336 < 0 then (if t337 ≤ 0 then (if t338 ≥ 0 then (ententelaw03_IdentOrder.j0 k t336 true a0_0 a0_1 l0_2 a1_0 a1_1 l1_2) else ((ident_Cmp.f k a0_0 a0_1 l0_2 a0_0 a0_1 l0_2).bind fun t344 => (ententelaw03_IdentOrder.j0 k t336 (t344 != 0) a0_0 a0_1 l0_2 a1_0 a1_1 l1_2))) else ((ident_Cmp.f k a0_0 a0_1 l0_2 a0_0 a0_1 l0_2).bind fun t345 => (ententelaw03_IdentOrder.j0 k t336 (t345 != 0) a0_0 a0_1 l0_2 a1_0 a1_1 l1_2))) else ((ident_Cmp.f k a0_0 a0_1 l0_2 a0_0 a0_1 l0_2).bind fun t346 => (ententelaw03_IdentOrder.j0 k t336 (t346 != 0) a0_0 a0_1 l0_2 a1_0 a1_1 l1_2)))))) else (ententelaw03_IdentOrder.j0 k t336 true a0_0 a0_1 l0_2 a1_0 a1_1 l1_2))) = some r := H
  have A8 := Aside0.mk A80
  clear A80
  have HC9 := Aside0.mk H
  clear H
  go_enter Tryd.func7, Tryd.ntmps7
  try go_wp2_with (first | ((with_reducible refine gate_dst (N := 3) rfl ?_); (try (refine gate_guard (by rfl) ?_; dsimp only)); refine box_event ?hg (N := 3) ?hd (cs := #[.int .i64 a0_0, .int .i64 a0_1, .slice A0_2 l0_2.length c0_2]) (t := 24) ?hr ?_; (case hd => rfl); (case hg => rfl); (case hr => first | (go_simp; done) | (go_simp; rfl)); intro gb328 hg w10 hbox hb; have n0_ := Aside0.mk (Kd.V_below (Kd.V_elderB (by exact HO0_2.out) gb328 (Nat.le_of_eq hg.symm)) hb); have n1_ := Aside0.mk (Kd.V_below (Kd.V_elderB (by exact HO1_2.out) gb328 (Nat.le_of_eq hg.symm)) hb); have n2_ := Aside0.mk (Kd.V_below (Kd.V_elderB (by exact HO2_2.out) gb328 (Nat.le_of_eq hg.symm)) hb); have n3_ := Aside0.mk (below_step HB.out hb); have n4_ := Aside0.mk (hbox); have n5_ := Aside0.mk ((by rw [hg]; exact (below_size HB.out) : w.heap.size ≤ gb328)); have n6_ := Aside0.mk ((by rw [hg]; exact (below_size HB.out) : w.heap.size ≤ gb328)); clear HO0_2; clear HO1_2; clear HO2_2; clear HB; have HO0_2 := n0_; have HO1_2 := n1_; have HO2_2 := n2_; have HB := n3_; have BK328 := n4_; have GW328 := n5_; have GE328 := n6_; clear n0_ n1_ n2_ n3_ n4_ n5_ n6_; clear hb hbox hg) | ((with_reducible refine gate_dst (N := 4) rfl ?_); (try (refine gate_guard (by rfl) ?_; dsimp only)); refine box_event ?hg (N := 4) ?hd (cs := #[.int .i64 a1_0, .int .i64 a1_1, .slice A1_2 l1_2.length c1_2]) (t := 24) ?hr ?_; (case hd => rfl); (case hg => rfl); (case hr => first | (go_simp; done) | (go_simp; rfl)); intro gb329 hg w11 hbox hb; have n0_ := Aside0.mk (Kd.V_below (Kd.V_elderB (by exact HO0_2.out) gb329 (Nat.le_of_eq hg.symm)) hb); have n1_ := Aside0.mk (Kd.V_below (Kd.V_elderB (by exact HO1_2.out) gb329 (Nat.le_of_eq hg.symm)) hb); have n2_ := Aside0.mk (Kd.V_below (Kd.V_elderB (by exact HO2_2.out) gb329 (Nat.le_of_eq hg.symm)) hb); have n3_ := Aside0.mk (blk_below (g := gb328) (o := .cells #[.int .i64 a0_0, .int .i64 a0_1, .slice A0_2 l0_2.length c0_2] 24 (0, 0)) (by exact BK328.out) hb); have n4_ := Aside0.mk (below_step HB.out hb); have n5_ := Aside0.mk (hbox); have n6_ := Aside0.mk ((by rw [hg]; exact (below_size HB.out) : w.heap.size ≤ gb329)); have n7_ := Aside0.mk ((by rw [hg]; exact (below_size HB.out) : w.heap.size ≤ gb329)); have n8_ := Aside0.mk ((by rw [hg]; exact Nat.ne_of_lt (blk_lt (g := gb328) (o := .cells #[.int .i64 a0_0, .int .i64 a0_1, .slice A0_2 l0_2.length c0_2] 24 (0, 0)) (by exact BK328.out)) : gb328 ≠ gb329)); have n9_ := Aside0.mk ((by rw [hg]; exact Nat.ne_of_gt (blk_lt (g := gb328) (o := .cells #[.int .i64 a0_0, .int .i64 a0_1, .slice A0_2 l0_2.length c0_2] 24 (0, 0)) (by exact BK328.out)) : gb329 ≠ gb328)); clear HO0_2; clear HO1_2; clear HO2_2; clear BK328; clear HB; have HO0_2 := n0_; have HO1_2 := n1_; have HO2_2 := n2_; have BK328 := n3_; have HB := n4_; have BK329 := n5_; have GW329 := n6_; have GE329 := n7_; have NB328_329 := n8_; have NB329_328 := n9_; clear n0_ n1_ n2_ n3_ n4_ n5_ n6_ n7_ n8_ n9_; clear hb hbox hg) | ((with_reducible refine gate_dst (N := 5) rfl ?_); (try (refine gate_guard (by rfl) ?_; dsimp only)); refine box_event ?hg (N := 5) ?hd (cs := #[.int .i64 a2_0, .int .i64 a2_1, .slice A2_2 l2_2.length c2_2]) (t := 24) ?hr ?_; (case hd => rfl); (case hg => rfl); (case hr => first | (go_simp; done) | (go_simp; rfl)); intro gb330 hg w12 hbox hb; have n0_ := Aside0.mk (Kd.V_below (Kd.V_elderB (by exact HO0_2.out) gb330 (Nat.le_of_eq hg.symm)) hb); have n1_ := Aside0.mk (Kd.V_below (Kd.V_elderB (by exact HO1_2.out) gb330 (Nat.le_of_eq hg.symm)) hb); have n2_ := Aside0.mk (Kd.V_below (Kd.V_elderB (by exact HO2_2.out) gb330 (Nat.le_of_eq hg.symm)) hb); have n3_ := Aside0.mk (blk_below (g := gb328) (o := .cells #[.int .i64 a0_0, .int .i64 a0_1, .slice A0_2 l0_2.length c0_2] 24 (0, 0)) (by exact BK328.out) hb); have n4_ := Aside0.mk (blk_below (g := gb329) (o := .cells #[.int .i64 a1_0, .int .i64 a1_1, .slice A1_2 l1_2.length c1_2] 24 (0, 0)) (by exact BK329.out) hb); have n5_ := Aside0.mk (below_step HB.out hb); have n6_ := Aside0.mk (hbox); have n7_ := Aside0.mk ((by rw [hg]; exact (below_size HB.out) : w.heap.size ≤ gb330)); have n8_ := Aside0.mk ((by rw [hg]; exact (below_size HB.out) : w.heap.size ≤ gb330)); have n9_ := Aside0.mk ((by rw [hg]; exact Nat.ne_of_lt (blk_lt (g := gb328) (o := .cells #[.int .i64 a0_0, .int .i64 a0_1, .slice A0_2 l0_2.length c0_2] 24 (0, 0)) (by exact BK328.out)) : gb328 ≠ gb330)); have n10_ := Aside0.mk ((by rw [hg]; exact Nat.ne_of_gt (blk_lt (g := gb328) (o := .cells #[.int .i64 a0_0, .int .i64 a0_1, .slice A0_2 l0_2.length c0_2] 24 (0, 0)) (by exact BK328.out)) : gb330 ≠ gb328)); have n11_ := Aside0.mk ((by rw [hg]; exact Nat.ne_of_lt (blk_lt (g := gb329) (o := .cells #[.int .i64 a1_0, .int .i64 a1_1, .slice A1_2 l1_2.length c1_2] 24 (0, 0)) (by exact BK329.out)) : gb329 ≠ gb330)); have n12_ := Aside0.mk ((by rw [hg]; exact Nat.ne_of_gt (blk_lt (g := gb329) (o := .cells #[.int .i64 a1_0, .int .i64 a1_1, .slice A1_2 l1_2.length c1_2] 24 (0, 0)) (by exact BK329.out)) : gb330 ≠ gb329)); clear HO0_2; clear HO1_2; clear HO2_2; clear BK328; clear BK329; clear HB; have HO0_2 := n0_; have HO1_2 := n1_; have HO2_2 := n2_; have BK328 := n3_; have BK329 := n4_; have HB := n5_; have BK330 := n6_; have GW330 := n7_; have GE330 := n8_; have NB328_330 := n9_; have NB330_328 := n10_; have NB329_330 := n11_; have NB330_329 := n12_; clear n0_ n1_ n2_ n3_ n4_ n5_ n6_ n7_ n8_ n9_ n10_ n11_ n12_; clear hb hbox hg; have hnb13 := NB328_329.out; have hnc13 := NB329_328.out; have hnb14 := NB328_330.out; have hnc14 := NB330_328.out; have hcz15_0 : w12.cell? ⟨gb328, 0, none⟩ = some (.int .i64 a0_0) := (blk_cell BK328.out 0).trans rfl; have hcz15_1 : w12.cell? ⟨gb328, 1, none⟩ = some (.int .i64 a0_1) := (blk_cell BK328.out 1).trans rfl; have hcz15_2 : w12.cell? ⟨gb328, 2, none⟩ = some (.slice A0_2 l0_2.length c0_2) := (blk_cell BK328.out 2).trans rfl; have hfz15_0 := blk_frozen BK328.out 0; have hfz15_1 := blk_frozen BK328.out 1; have hfz15_2 := blk_frozen BK328.out 2; have hnb16 := NB329_330.out; have hnc16 := NB330_329.out; have hcz17_0 : w12.cell? ⟨gb329, 0, none⟩ = some (.int .i64 a1_0) := (blk_cell BK329.out 0).trans rfl; have hcz17_1 : w12.cell? ⟨gb329, 1, none⟩ = some (.int .i64 a1_1) := (blk_cell BK329.out 1).trans rfl; have hcz17_2 : w12.cell? ⟨gb329, 2, none⟩ = some (.slice A1_2 l1_2.length c1_2) := (blk_cell BK329.out 2).trans rfl; have hfz17_0 := blk_frozen BK329.out 0; have hfz17_1 := blk_frozen BK329.out 1; have hfz17_2 := blk_frozen BK329.out 2; have hcz18_0 : w12.cell? ⟨gb330, 0, none⟩ = some (.int .i64 a2_0) := (blk_cell BK330.out 0).trans rfl; have hcz18_1 : w12.cell? ⟨gb330, 1, none⟩ = some (.int .i64 a2_1) := (blk_cell BK330.out 1).trans rfl; have hcz18_2 : w12.cell? ⟨gb330, 2, none⟩ = some (.slice A2_2 l2_2.length c2_2) := (blk_cell BK330.out 2).trans rfl; have hfz18_0 := blk_frozen BK330.out 0; have hfz18_1 := blk_frozen BK330.out 1; have hfz18_2 := blk_frozen BK330.out 2) | ((with_reducible refine gate_dst (N := 16) rfl ?_); (try (refine gate_guard (by rfl) ?_; dsimp only)); refine Kd.N_lit k24 _ 24 ?hg (N' := 16) ?hd (xs := ([(⟨a0_0, a0_1, l0_2⟩ : S24), (⟨a1_0, a1_1, l1_2⟩ : S24), (⟨a2_0, a2_1, l2_2⟩ : S24)] : List (S24))) (inner := [.int .i64 a0_0, .int .i64 a0_1, .slice A0_2 l0_2.length c0_2, .int .i64 a1_0, .int .i64 a1_1, .slice A1_2 l1_2.length c1_2, .int .i64 a2_0, .int .i64 a2_1, .slice A2_2 l2_2.length c2_2]) (ok := (fun k_ => ((P0_2_ k_ ∨ P1_2_ k_ ∨ P2_2_ k_) ∨ w.heap.size ≤ k_) ∧ k_ ≠ gb328 ∧ k_ ≠ gb329 ∧ k_ ≠ gb330)) (okp := (fun k_ => ((P0_2_ k_ ∨ P1_2_ k_ ∨ P2_2_ k_) ∨ w.heap.size ≤ k_) ∧ k_ ≠ gb328 ∧ k_ ≠ gb329 ∧ k_ ≠ gb330)) ?hr ?hp (fun _ hk => hk) ((show ∀ k_, w12.heap.size ≤ k_ → (fun k_ => ((P0_2_ k_ ∨ P1_2_ k_ ∨ P2_2_ k_) ∨ w.heap.size ≤ k_) ∧ k_ ≠ gb328 ∧ k_ ≠ gb329 ∧ k_ ≠ gb330) k_ from fun k_ hk => ⟨(.inr (Nat.le_trans (below_size HB.out) hk)), Kd.freshB (g := gb328) (o := .cells #[.int .i64 a0_0, .int .i64 a0_1, .slice A0_2 l0_2.length c0_2] 24 (0, 0)) (by exact BK328.out) k_ hk, Kd.freshB (g := gb329) (o := .cells #[.int .i64 a1_0, .int .i64 a1_1, .slice A1_2 l1_2.length c1_2] 24 (0, 0)) (by exact BK329.out) k_ hk, Kd.freshB (g := gb330) (o := .cells #[.int .i64 a2_0, .int .i64 a2_1, .slice A2_2 l2_2.length c2_2] 24 (0, 0)) (by exact BK330.out) k_ hk⟩) _ (Nat.le_refl _)) (Below.refl _ _) (Nat.le_refl _) (by simp) ?_; (case hd => rfl); (case hg => rfl); (case hr => first | (go_simp; done) | (go_simp; rfl)); (case hp => exact (Reps.c3 (show Kd.FK k24 _ _ (⟨a0_0, a0_1, l0_2⟩ : S24) [.int .i64 a0_0, .int .i64 a0_1, .slice A0_2 l0_2.length c0_2] from (k24_mkF _ _ (⟨a0_0, a0_1, l0_2⟩ : S24) (Kd.V_reads' (Kd.V_mono (ok' := (fun k_ => ((P0_2_ k_ ∨ P1_2_ k_ ∨ P2_2_ k_) ∨ w.heap.size ≤ k_) ∧ k_ ≠ gb328 ∧ k_ ≠ gb329 ∧ k_ ≠ gb330)) (HO0_2.out) (fun k_ hk => ⟨hk.1.1.1, ⟨hk.1.1.2, ⟨hk.1.2, hk.2⟩⟩⟩))).2.1 (Kd.V_F (Kd.V_mono (ok' := (fun k_ => ((P0_2_ k_ ∨ P1_2_ k_ ∨ P2_2_ k_) ∨ w.heap.size ≤ k_) ∧ k_ ≠ gb328 ∧ k_ ≠ gb329 ∧ k_ ≠ gb330)) (HO0_2.out) (fun k_ hk => ⟨hk.1.1.1, ⟨hk.1.1.2, ⟨hk.1.2, hk.2⟩⟩⟩))))) (Reps.c3 (show Kd.FK k24 _ _ (⟨a1_0, a1_1, l1_2⟩ : S24) [.int .i64 a1_0, .int .i64 a1_1, .slice A1_2 l1_2.length c1_2] from (k24_mkF _ _ (⟨a1_0, a1_1, l1_2⟩ : S24) (Kd.V_reads' (Kd.V_mono (ok' := (fun k_ => ((P0_2_ k_ ∨ P1_2_ k_ ∨ P2_2_ k_) ∨ w.heap.size ≤ k_) ∧ k_ ≠ gb328 ∧ k_ ≠ gb329 ∧ k_ ≠ gb330)) (HO1_2.out) (fun k_ hk => ⟨hk.1.1.1, ⟨hk.1.1.2, ⟨hk.1.2, hk.2⟩⟩⟩))).2.1 (Kd.V_F (Kd.V_mono (ok' := (fun k_ => ((P0_2_ k_ ∨ P1_2_ k_ ∨ P2_2_ k_) ∨ w.heap.size ≤ k_) ∧ k_ ≠ gb328 ∧ k_ ≠ gb329 ∧ k_ ≠ gb330)) (HO1_2.out) (fun k_ hk => ⟨hk.1.1.1, ⟨hk.1.1.2, ⟨hk.1.2, hk.2⟩⟩⟩))))) (Reps.c3 (show Kd.FK k24 _ _ (⟨a2_0, a2_1, l2_2⟩ : S24) [.int .i64 a2_0, .int .i64 a2_1, .slice A2_2 l2_2.length c2_2] from (k24_mkF _ _ (⟨a2_0, a2_1, l2_2⟩ : S24) (Kd.V_reads' (Kd.V_mono (ok' := (fun k_ => ((P0_2_ k_ ∨ P1_2_ k_ ∨ P2_2_ k_) ∨ w.heap.size ≤ k_) ∧ k_ ≠ gb328 ∧ k_ ≠ gb329 ∧ k_ ≠ gb330)) (HO2_2.out) (fun k_ hk => ⟨hk.1.1.1, ⟨hk.1.1.2, ⟨hk.1.2, hk.2⟩⟩⟩))).2.1 (Kd.V_F (Kd.V_mono (ok' := (fun k_ => ((P0_2_ k_ ∨ P1_2_ k_ ∨ P2_2_ k_) ∨ w.heap.size ≤ k_) ∧ k_ ≠ gb328 ∧ k_ ≠ gb329 ∧ k_ ≠ gb330)) (HO2_2.out) (fun k_ hk => ⟨hk.1.1.1, ⟨hk.1.1.2, ⟨hk.1.2, hk.2⟩⟩⟩))))) (Reps.none _ _))))); intro v332 w19 ho20 hb hg_ hnew_; clear hg_ hnew_; (first | rw [← Ny331.out] at ho20 | (simp only [Int.reduceToNat] at ho20; rw [← Ny331.out] at ho20)); have n0_ := Aside0.mk (Kd.V_elder' (by exact HO0_2.out) (Kd.N_base ho20) hb); have n1_ := Aside0.mk (Kd.V_elder' (by exact HO1_2.out) (Kd.N_base ho20) hb); have n2_ := Aside0.mk (Kd.V_elder' (by exact HO2_2.out) (Kd.N_base ho20) hb); have n3_ := Aside0.mk (Kd.N_lower ho20 (below_size HB.out)); have n4_ := Aside0.mk (blk_below (g := gb328) (o := .cells #[.int .i64 a0_0, .int .i64 a0_1, .slice A0_2 l0_2.length c0_2] 24 (0, 0)) (by exact BK328.out) hb); have n5_ := Aside0.mk (blk_below (g := gb329) (o := .cells #[.int .i64 a1_0, .int .i64 a1_1, .slice A1_2 l1_2.length c1_2] 24 (0, 0)) (by exact BK329.out) hb); have n6_ := Aside0.mk (blk_below (g := gb330) (o := .cells #[.int .i64 a2_0, .int .i64 a2_1, .slice A2_2 l2_2.length c2_2] 24 (0, 0)) (by exact BK330.out) hb); have n7_ := Aside0.mk (below_step HB.out hb); clear HO0_2; clear HO1_2; clear HO2_2; clear BK328; clear BK329; clear BK330; clear HB; have HO0_2 := n0_; have HO1_2 := n1_; have HO2_2 := n2_; have HO333 := n3_; have BK328 := n4_; have BK329 := n5_; have BK330 := n6_; have HB := n7_; clear n0_ n1_ n2_ n3_ n4_ n5_ n6_ n7_; clear hb ho20; obtain ⟨Ao21, co21, eo21⟩ := Kd.N_slice HO333.out; subst eo21) | ((with_reducible refine gate_callee (f := 10) rfl ?_); refine goesL_ (some 17) rfl rfl Tryd.func10 (by kernel_rfl) rfl #[.slice Ao21 y331.length co21] rfl (by (try simp only [List.map_toArray, List.map_cons, List.map_nil]); first | done | rfl | (simp only [List.length_drop, List.length_take]; rfl)) ?_; (with_reducible refine (ententelaw03_few.calls k _ _ y331 true _ ?side1 ?side2 A4.out).mono ?_); (case side1 => exact (Kd.N_reads' HO333.out).2.2); (case side2 => exact (Kd.N_reads' HO333.out).2.1); rintro e w' ⟨rfl, ⟨nd, rfl⟩⟩; refine ⟨_, rfl, ?_⟩))
  (try (rw [drewN_self w19]; generalize hq_ : World.drewN w19 _ = w19; have n0_ : Aside0 (Kd.V k55 55 w19 w.heap.size (fun k_ => ((P0_2_ k_ ∨ P1_2_ k_ ∨ P2_2_ k_) ∨ w.heap.size ≤ k_) ∧ k_ ≠ gb328 ∧ k_ ≠ gb329 ∧ k_ ≠ gb330) (.slice A0_2 l0_2.length c0_2) l0_2) := ⟨by rw [← hq_]; exact (by (with_reducible repeat (first | apply Kd.V_alloc | apply Kd.V_drewN | apply Kd.V_drew)); first | exact HO0_2.out | exact Kd.V_mono HO0_2.out (fun _ hk => ⟨hk.1.1.1.1, ⟨hk.1.1.1.2, ⟨hk.1.1.2, hk.1.2⟩⟩⟩))⟩; have n1_ : Aside0 (Kd.V k55 55 w19 w.heap.size (fun k_ => ((P0_2_ k_ ∨ P1_2_ k_ ∨ P2_2_ k_) ∨ w.heap.size ≤ k_) ∧ k_ ≠ gb328 ∧ k_ ≠ gb329 ∧ k_ ≠ gb330) (.slice A1_2 l1_2.length c1_2) l1_2) := ⟨by rw [← hq_]; exact (by (with_reducible repeat (first | apply Kd.V_alloc | apply Kd.V_drewN | apply Kd.V_drew)); first | exact HO1_2.out | exact Kd.V_mono HO1_2.out (fun _ hk => ⟨hk.1.1.1.1, ⟨hk.1.1.1.2, ⟨hk.1.1.2, hk.1.2⟩⟩⟩))⟩; have n2_ : Aside0 (Kd.V k55 55 w19 w.heap.size (fun k_ => ((P0_2_ k_ ∨ P1_2_ k_ ∨ P2_2_ k_) ∨ w.heap.size ≤ k_) ∧ k_ ≠ gb328 ∧ k_ ≠ gb329 ∧ k_ ≠ gb330) (.slice A2_2 l2_2.length c2_2) l2_2) := ⟨by rw [← hq_]; exact (by (with_reducible repeat (first | apply Kd.V_alloc | apply Kd.V_drewN | apply Kd.V_drew)); first | exact HO2_2.out | exact Kd.V_mono HO2_2.out (fun _ hk => ⟨hk.1.1.1.1, ⟨hk.1.1.1.2, ⟨hk.1.1.2, hk.1.2⟩⟩⟩))⟩; have n3_ : Aside0 (w19.heap[gb328]? = some (.cells #[.int .i64 a0_0, .int .i64 a0_1, .slice A0_2 l0_2.length c0_2] 24 (0, 0))) := ⟨by rw [← hq_]; exact (by (with_reducible repeat (first | refine blk_drewN ?_ _ | refine blk_drew ?_ | refine blk_alloc ?_ _)); exact BK328.out)⟩; have n4_ : Aside0 (w19.heap[gb329]? = some (.cells #[.int .i64 a1_0, .int .i64 a1_1, .slice A1_2 l1_2.length c1_2] 24 (0, 0))) := ⟨by rw [← hq_]; exact (by (with_reducible repeat (first | refine blk_drewN ?_ _ | refine blk_drew ?_ | refine blk_alloc ?_ _)); exact BK329.out)⟩; have n5_ : Aside0 (w19.heap[gb330]? = some (.cells #[.int .i64 a2_0, .int .i64 a2_1, .slice A2_2 l2_2.length c2_2] 24 (0, 0))) := ⟨by rw [← hq_]; exact (by (with_reducible repeat (first | refine blk_drewN ?_ _ | refine blk_drew ?_ | refine blk_alloc ?_ _)); exact BK330.out)⟩; have n6_ : Aside0 (Below w.heap.size w w19) := ⟨by rw [← hq_]; exact (by repeat (first | (with_reducible first | exact HB.out | apply below_alloc | apply pw_below_drewN | apply below_drew1 | refine below_set ?_ GE328.out | refine below_set ?_ GE329.out | refine below_set ?_ GE330.out) | exact HB.out))⟩; clear HO0_2 HO1_2 HO2_2 BK328 BK329 BK330 HB hq_; have HO0_2 := n0_; have HO1_2 := n1_; have HO2_2 := n2_; have BK328 := n3_; have BK329 := n4_; have BK330 := n5_; have HB := n6_; clear n0_ n1_ n2_ n3_ n4_ n5_ n6_))
  have n0_ := Aside0.mk (Kd.V_drew HO0_2.out)
  have n1_ := Aside0.mk (Kd.V_drew HO1_2.out)
  have n2_ := Aside0.mk (Kd.V_drew HO2_2.out)
  have n3_ := Aside0.mk (blk_drew BK328.out)
  have n4_ := Aside0.mk (blk_drew BK329.out)
  have n5_ := Aside0.mk (blk_drew BK330.out)
  have n6_ := Aside0.mk (below_drew1 HB.out)
  clear HO0_2
  clear HO1_2
  clear HO2_2
  clear BK328
  clear BK329
  clear BK330
  clear HB
  have HO0_2 := n0_
  have HO1_2 := n1_
  have HO2_2 := n2_
  have BK328 := n3_
  have BK329 := n4_
  have BK330 := n5_
  have HB := n6_
  clear n0_ n1_ n2_ n3_ n4_ n5_ n6_
  refine start_ (n := 12) (S := fun w' => w'.cell? ⟨gb328, 0, none⟩ = some (.int .i64 a0_0) ∧ w'.cell? ⟨gb328, 1, none⟩ = some (.int .i64 a0_1) ∧ w'.cell? ⟨gb328, 2, none⟩ = some (.slice A0_2 l0_2.length c0_2) ∧ w'.cell? ⟨gb329, 0, none⟩ = some (.int .i64 a1_0) ∧ w'.cell? ⟨gb329, 1, none⟩ = some (.int .i64 a1_1) ∧ w'.cell? ⟨gb329, 2, none⟩ = some (.slice A1_2 l1_2.length c1_2) ∧ w'.cell? ⟨gb330, 0, none⟩ = some (.int .i64 a2_0) ∧ w'.cell? ⟨gb330, 1, none⟩ = some (.int .i64 a2_1) ∧ w'.cell? ⟨gb330, 2, none⟩ = some (.slice A2_2 l2_2.length c2_2)) (ds := []) #[false, false, false, false, false, false, false, false, false, false, false, false] (by kernel_rfl) rfl rfl ⟨(blk_cell BK328.out 0).trans rfl, (blk_cell BK328.out 1).trans rfl, (blk_cell BK328.out 2).trans rfl, (blk_cell BK329.out 0).trans rfl, (blk_cell BK329.out 1).trans rfl, (blk_cell BK329.out 2).trans rfl, (blk_cell BK330.out 0).trans rfl, (blk_cell BK330.out 1).trans rfl, (blk_cell BK330.out 2).trans rfl⟩ (fun hHeld => ?_); refine with_tabW ententelaw03_IdentOrder.tab3 ententelaw03_IdentOrder.bits3 (fun HT_ HW_ => ?_)
  generalize w19.drew = w22 at HO0_2 HO1_2 HO2_2 BK328 BK329 BK330 HB hHeld ⊢
  refine take_ (i := 0) (N := some 20) (v := ?_) (a' := ?_) #[true, false, false, false, false, false, false, false, false, false, false, false] rfl rfl (take_ofW HT_.out HW_.out (by kernel_rfl)) (fun _ _ _ h => h) (Or.inl ⟨by rfl, ?_⟩) hHeld ?_ ?_
  rotate_left
  ·rintro w' ⟨s0, s1, s2, s3, s4, s5, s6, s7, s8⟩
   go_simp
   with_reducible rfl
  rotate_left
  ·simp only [Act.put, List.setIfInBounds_toArray, List.set_cons_zero, List.set_cons_succ, i64_w, i32_w]
   rfl
  refine take_ (i := 1) (N := some 21) (v := ?_) (a' := ?_) #[true, true, false, false, false, false, false, false, false, false, false, false] rfl rfl (take_ofW HT_.out HW_.out (by kernel_rfl)) (fun _ _ _ h => h) (Or.inl ⟨by rfl, ?_⟩) hHeld ?_ ?_
  rotate_left
  ·rintro w' ⟨s0, s1, s2, s3, s4, s5, s6, s7, s8⟩
   go_simp
   with_reducible rfl
  rotate_left
  ·simp only [Act.put, List.setIfInBounds_toArray, List.set_cons_zero, List.set_cons_succ, i64_w, i32_w]
   rfl
  refine take_ (i := 3) (N := some 23) (v := ?_) (a' := ?_) #[true, true, false, true, false, false, false, false, false, false, false, false] rfl rfl (take_ofW HT_.out HW_.out (by kernel_rfl)) (fun _ _ _ h => h) (Or.inl ⟨by rfl, ?_⟩) hHeld ?_ ?_
  rotate_left
  ·rintro w' ⟨s0, s1, s2, s3, s4, s5, s6, s7, s8⟩
   go_simp
   with_reducible rfl
  rotate_left
  ·simp only [Act.put, List.setIfInBounds_toArray, List.set_cons_zero, List.set_cons_succ, i64_w, i32_w]
   rfl
  refine take_ (i := 4) (N := some 24) (v := ?_) (a' := ?_) #[true, true, false, true, true, false, false, false, false, false, false, false] rfl rfl (take_ofW HT_.out HW_.out (by kernel_rfl)) (fun _ _ _ h => h) (Or.inl ⟨by rfl, ?_⟩) hHeld ?_ ?_
  rotate_left
  ·rintro w' ⟨s0, s1, s2, s3, s4, s5, s6, s7, s8⟩
   go_simp
   with_reducible rfl
  rotate_left
  ·simp only [Act.put, List.setIfInBounds_toArray, List.set_cons_zero, List.set_cons_succ, i64_w, i32_w]
   rfl
  refine take_ (i := 6) (N := some 26) (v := ?_) (a' := ?_) #[true, true, false, true, true, false, true, false, false, false, false, false] rfl rfl (take_ofW HT_.out HW_.out (by kernel_rfl)) (fun _ _ _ h => h) (Or.inl ⟨by rfl, ?_⟩) hHeld ?_ ?_
  rotate_left
  ·rintro w' ⟨s0, s1, s2, s3, s4, s5, s6, s7, s8⟩
   go_simp
   with_reducible rfl
  rotate_left
  ·simp only [Act.put, List.setIfInBounds_toArray, List.set_cons_zero, List.set_cons_succ, i64_w, i32_w]
   rfl
  refine take_ (i := 7) (N := some 27) (v := ?_) (a' := ?_) #[true, true, false, true, true, false, true, true, false, false, false, false] rfl rfl (take_ofW HT_.out HW_.out (by kernel_rfl)) (fun _ _ _ h => h) (Or.inl ⟨by rfl, ?_⟩) hHeld ?_ ?_
  rotate_left
  ·rintro w' ⟨s0, s1, s2, s3, s4, s5, s6, s7, s8⟩
   go_simp
   with_reducible rfl
  rotate_left
  ·simp only [Act.put, List.setIfInBounds_toArray, List.set_cons_zero, List.set_cons_succ, i64_w, i32_w]
   rfl
  refine one_ (i := 2) (N := some 22) #[true, true, true, true, true, false, true, true, false, false, false, false] rfl rfl (one_of HT_.out (by kernel_rfl)) (by decide) (fun K hK => ?_)
  refine goes_ Tryd.func17 (by kernel_rfl) rfl #[.agg #[.int .i64 a0_0, .int .i64 a0_1, .slice A0_2 l0_2.length c0_2], .agg #[.int .i64 a1_0, .int .i64 a1_1, .slice A1_2 l1_2.length c1_2]] (by rfl) rfl rfl (by (try simp only [List.map_toArray, List.map_cons, List.map_nil]); first | done | rfl | (simp only [List.length_drop, List.length_take]; rfl)) ?_
  with_reducible refine (ident_Cmp.calls k a0_0 a0_1 _ _ l0_2 a1_0 a1_1 _ _ l1_2 t336 _ ?side1 ?side2 ?side3 ?side4 A6.out).mono ?_
  (case side1 => exact (Kd.V_reads' HO0_2.out).2.2)
  (case side2 => exact (Kd.V_reads' HO0_2.out).2.1)
  (case side3 => exact (Kd.V_reads' HO1_2.out).2.2)
  (case side4 => exact (Kd.V_reads' HO1_2.out).2.1)
  rintro e w23 ⟨rfl, hb⟩
  refine ⟨_, rfl, ?_⟩
  have n0_ := Aside0.mk (Kd.V_below (by exact HO0_2.out) hb)
  have n1_ := Aside0.mk (Kd.V_below (by exact HO1_2.out) hb)
  have n2_ := Aside0.mk (Kd.V_below (by exact HO2_2.out) hb)
  have n3_ := Aside0.mk (blk_below (g := gb328) (o := .cells #[.int .i64 a0_0, .int .i64 a0_1, .slice A0_2 l0_2.length c0_2] 24 (0, 0)) (by exact BK328.out) hb)
  have n4_ := Aside0.mk (blk_below (g := gb329) (o := .cells #[.int .i64 a1_0, .int .i64 a1_1, .slice A1_2 l1_2.length c1_2] 24 (0, 0)) (by exact BK329.out) hb)
  have n5_ := Aside0.mk (blk_below (g := gb330) (o := .cells #[.int .i64 a2_0, .int .i64 a2_1, .slice A2_2 l2_2.length c2_2] 24 (0, 0)) (by exact BK330.out) hb)
  have n6_ := Aside0.mk (below_step HB.out hb)
  clear HO0_2
  clear HO1_2
  clear HO2_2
  clear BK328
  clear BK329
  clear BK330
  clear HB
  have HO0_2 := n0_
  have HO1_2 := n1_
  have HO2_2 := n2_
  have BK328 := n3_
  have BK329 := n4_
  have BK330 := n5_
  have HB := n6_
  clear n0_ n1_ n2_ n3_ n4_ n5_ n6_
  (try clear hb)
  (try clear hb2)
  (try clear hk)
  (try clear hi)
  refine hK.out _ _ ⟨(blk_cell BK328.out 0).trans rfl, (blk_cell BK328.out 1).trans rfl, (blk_cell BK328.out 2).trans rfl, (blk_cell BK329.out 0).trans rfl, (blk_cell BK329.out 1).trans rfl, (blk_cell BK329.out 2).trans rfl, (blk_cell BK330.out 0).trans rfl, (blk_cell BK330.out 1).trans rfl, (blk_cell BK330.out 2).trans rfl⟩ (fun hHeld => ?_)
  clear hK K
  refine norm_ (a' := ?_) ?_ ?_
  rotate_left
  ·show Act.put _ (some 22) _ = _
   simp only [Act.put, List.setIfInBounds_toArray, List.set_cons_zero, List.set_cons_succ, i64_w, i32_w]
   rfl
  refine one_ (i := 5) (N := some 25) #[true, true, true, true, true, true, true, true, false, false, false, false] rfl rfl (one_of HT_.out (by kernel_rfl)) (by decide) (fun K hK => ?_)
  refine goes_ Tryd.func17 (by kernel_rfl) rfl #[.agg #[.int .i64 a1_0, .int .i64 a1_1, .slice A1_2 l1_2.length c1_2], .agg #[.int .i64 a2_0, .int .i64 a2_1, .slice A2_2 l2_2.length c2_2]] (by rfl) rfl rfl (by (try simp only [List.map_toArray, List.map_cons, List.map_nil]); first | done | rfl | (simp only [List.length_drop, List.length_take]; rfl)) ?_
  with_reducible refine (ident_Cmp.calls k a1_0 a1_1 _ _ l1_2 a2_0 a2_1 _ _ l2_2 t337 _ ?side1 ?side2 ?side3 ?side4 A7.out).mono ?_
  (case side1 => exact (Kd.V_reads' HO1_2.out).2.2)
  (case side2 => exact (Kd.V_reads' HO1_2.out).2.1)
  (case side3 => exact (Kd.V_reads' HO2_2.out).2.2)
  (case side4 => exact (Kd.V_reads' HO2_2.out).2.1)
  rintro e w24 ⟨rfl, hb⟩
  refine ⟨_, rfl, ?_⟩
  have n0_ := Aside0.mk (Kd.V_below (by exact HO0_2.out) hb)
  have n1_ := Aside0.mk (Kd.V_below (by exact HO1_2.out) hb)
  have n2_ := Aside0.mk (Kd.V_below (by exact HO2_2.out) hb)
  have n3_ := Aside0.mk (blk_below (g := gb328) (o := .cells #[.int .i64 a0_0, .int .i64 a0_1, .slice A0_2 l0_2.length c0_2] 24 (0, 0)) (by exact BK328.out) hb)
  have n4_ := Aside0.mk (blk_below (g := gb329) (o := .cells #[.int .i64 a1_0, .int .i64 a1_1, .slice A1_2 l1_2.length c1_2] 24 (0, 0)) (by exact BK329.out) hb)
  have n5_ := Aside0.mk (blk_below (g := gb330) (o := .cells #[.int .i64 a2_0, .int .i64 a2_1, .slice A2_2 l2_2.length c2_2] 24 (0, 0)) (by exact BK330.out) hb)
  have n6_ := Aside0.mk (below_step HB.out hb)
  clear HO0_2
  clear HO1_2
  clear HO2_2
  clear BK328
  clear BK329
  clear BK330
  clear HB
  have HO0_2 := n0_
  have HO1_2 := n1_
  have HO2_2 := n2_
  have BK328 := n3_
  have BK329 := n4_
  have BK330 := n5_
  have HB := n6_
  clear n0_ n1_ n2_ n3_ n4_ n5_ n6_
  (try clear hb)
  (try clear hb2)
  (try clear hk)
  (try clear hi)
  refine hK.out _ _ ⟨(blk_cell BK328.out 0).trans rfl, (blk_cell BK328.out 1).trans rfl, (blk_cell BK328.out 2).trans rfl, (blk_cell BK329.out 0).trans rfl, (blk_cell BK329.out 1).trans rfl, (blk_cell BK329.out 2).trans rfl, (blk_cell BK330.out 0).trans rfl, (blk_cell BK330.out 1).trans rfl, (blk_cell BK330.out 2).trans rfl⟩ (fun hHeld => ?_)
  clear hK K
  refine norm_ (a' := ?_) ?_ ?_
  rotate_left
  ·show Act.put _ (some 25) _ = _
   simp only [Act.put, List.setIfInBounds_toArray, List.set_cons_zero, List.set_cons_succ, i64_w, i32_w]
   rfl
  refine one_ (i := 8) (N := some 28) #[true, true, true, true, true, true, true, true, true, false, false, false] rfl rfl (one_of HT_.out (by kernel_rfl)) (by decide) (fun K hK => ?_)
  refine goes_ Tryd.func17 (by kernel_rfl) rfl #[.agg #[.int .i64 a0_0, .int .i64 a0_1, .slice A0_2 l0_2.length c0_2], .agg #[.int .i64 a2_0, .int .i64 a2_1, .slice A2_2 l2_2.length c2_2]] (by rfl) rfl rfl (by (try simp only [List.map_toArray, List.map_cons, List.map_nil]); first | done | rfl | (simp only [List.length_drop, List.length_take]; rfl)) ?_
  with_reducible refine (ident_Cmp.calls k a0_0 a0_1 _ _ l0_2 a2_0 a2_1 _ _ l2_2 t338 _ ?side1 ?side2 ?side3 ?side4 A8.out).mono ?_
  (case side1 => exact (Kd.V_reads' HO0_2.out).2.2)
  (case side2 => exact (Kd.V_reads' HO0_2.out).2.1)
  (case side3 => exact (Kd.V_reads' HO2_2.out).2.2)
  (case side4 => exact (Kd.V_reads' HO2_2.out).2.1)
  rintro e w25 ⟨rfl, hb⟩
  refine ⟨_, rfl, ?_⟩
  have n0_ := Aside0.mk (Kd.V_below (by exact HO0_2.out) hb)
  have n1_ := Aside0.mk (Kd.V_below (by exact HO1_2.out) hb)
  have n2_ := Aside0.mk (Kd.V_below (by exact HO2_2.out) hb)
  have n3_ := Aside0.mk (blk_below (g := gb328) (o := .cells #[.int .i64 a0_0, .int .i64 a0_1, .slice A0_2 l0_2.length c0_2] 24 (0, 0)) (by exact BK328.out) hb)
  have n4_ := Aside0.mk (blk_below (g := gb329) (o := .cells #[.int .i64 a1_0, .int .i64 a1_1, .slice A1_2 l1_2.length c1_2] 24 (0, 0)) (by exact BK329.out) hb)
  have n5_ := Aside0.mk (blk_below (g := gb330) (o := .cells #[.int .i64 a2_0, .int .i64 a2_1, .slice A2_2 l2_2.length c2_2] 24 (0, 0)) (by exact BK330.out) hb)
  have n6_ := Aside0.mk (below_step HB.out hb)
  clear HO0_2
  clear HO1_2
  clear HO2_2
  clear BK328
  clear BK329
  clear BK330
  clear HB
  have HO0_2 := n0_
  have HO1_2 := n1_
  have HO2_2 := n2_
  have BK328 := n3_
  have BK329 := n4_
  have BK330 := n5_
  have HB := n6_
  clear n0_ n1_ n2_ n3_ n4_ n5_ n6_
  (try clear hb)
  (try clear hb2)
  (try clear hk)
  (try clear hi)
  refine hK.out _ _ ⟨(blk_cell BK328.out 0).trans rfl, (blk_cell BK328.out 1).trans rfl, (blk_cell BK328.out 2).trans rfl, (blk_cell BK329.out 0).trans rfl, (blk_cell BK329.out 1).trans rfl, (blk_cell BK329.out 2).trans rfl, (blk_cell BK330.out 0).trans rfl, (blk_cell BK330.out 1).trans rfl, (blk_cell BK330.out 2).trans rfl⟩ (fun hHeld => ?_)
  clear hK K
  refine norm_ (a' := ?_) ?_ ?_
  rotate_left
  ·show Act.put _ (some 28) _ = _
   simp only [Act.put, List.setIfInBounds_toArray, List.set_cons_zero, List.set_cons_succ, i64_w, i32_w]
   rfl
  refine pure_ (i := 9) (N := some 7) (v := ?_) (a' := ?_) #[true, true, true, true, true, true, true, true, true, true, false, false] rfl rfl (any_of HT_.out (by kernel_rfl)) (fun _ _ _ h => h) (Or.inl ⟨by rfl, ?_⟩) ?_ ?_
  rotate_left
  ·intro w'
   go_simp
   with_reducible rfl
  rotate_left
  ·simp only [Act.put, List.setIfInBounds_toArray, List.set_cons_zero, List.set_cons_succ, i64_w, i32_w]
   rfl
  refine pure_ (i := 10) (N := some 8) (v := ?_) (a' := ?_) #[true, true, true, true, true, true, true, true, true, true, true, false] rfl rfl (any_of HT_.out (by kernel_rfl)) (fun _ _ _ h => h) (Or.inl ⟨by rfl, ?_⟩) ?_ ?_
  rotate_left
  ·intro w'
   go_simp
   with_reducible rfl
  rotate_left
  ·simp only [Act.put, List.setIfInBounds_toArray, List.set_cons_zero, List.set_cons_succ, i64_w, i32_w]
   rfl
  refine pure_ (i := 11) (N := some 9) (v := ?_) (a' := ?_) #[true, true, true, true, true, true, true, true, true, true, true, true] rfl rfl (any_of HT_.out (by kernel_rfl)) (fun _ _ _ h => h) (Or.inl ⟨by rfl, ?_⟩) ?_ ?_
  rotate_left
  ·intro w'
   go_simp
   with_reducible rfl
  rotate_left
  ·simp only [Act.put, List.setIfInBounds_toArray, List.set_cons_zero, List.set_cons_succ, i64_w, i32_w]
   rfl
  refine done_ (done_of HT_.out (by kernel_rfl)) ?_
  go_upto_region 4 with (fail)
  go_cut [72] (fun v72 wc => ∃ (kq : Nat) (x72_8 : Bool), v72 = .bool x72_8 ∧ Aside0 (ententelaw03_IdentOrder.j0 kq t336 x72_8 a0_0 a0_1 l0_2 a1_0 a1_1 l1_2 = some r) ∧ Aside0 (kq ≤ k) ∧ Aside0 (Kd.V k55 55 wc w.heap.size (fun k_ => ((P0_2_ k_ ∨ P1_2_ k_ ∨ P2_2_ k_) ∨ w.heap.size ≤ k_) ∧ k_ ≠ gb328 ∧ k_ ≠ gb329 ∧ k_ ≠ gb330) (.slice A0_2 l0_2.length c0_2) l0_2) ∧ Aside0 (Kd.V k55 55 wc w.heap.size (fun k_ => ((P0_2_ k_ ∨ P1_2_ k_ ∨ P2_2_ k_) ∨ w.heap.size ≤ k_) ∧ k_ ≠ gb328 ∧ k_ ≠ gb329 ∧ k_ ≠ gb330) (.slice A1_2 l1_2.length c1_2) l1_2) ∧ Aside0 (Kd.V k55 55 wc w.heap.size (fun k_ => ((P0_2_ k_ ∨ P1_2_ k_ ∨ P2_2_ k_) ∨ w.heap.size ≤ k_) ∧ k_ ≠ gb328 ∧ k_ ≠ gb329 ∧ k_ ≠ gb330) (.slice A2_2 l2_2.length c2_2) l2_2) ∧ Aside0 (wc.heap[gb328]? = some (.cells #[.int .i64 a0_0, .int .i64 a0_1, (.slice A0_2 l0_2.length c0_2)] 24 (0, 0))) ∧ Aside0 (wc.heap[gb329]? = some (.cells #[.int .i64 a1_0, .int .i64 a1_1, (.slice A1_2 l1_2.length c1_2)] 24 (0, 0))) ∧ Aside0 (wc.heap[gb330]? = some (.cells #[.int .i64 a2_0, .int .i64 a2_1, (.slice A2_2 l2_2.length c2_2)] 24 (0, 0))) ∧ Aside0 (Below w.heap.size w wc))
  case first =>
   have H := HC9.out
   clear HC9
   replace H := Option.bind_eq_some_iff.mp H
   obtain ⟨t339, A260, H⟩ := H
   replace H : (if t336 = (wrap64 (-t339)) then (if t336 < (-1) then (ententelaw03_IdentOrder.j0 k t336 true a0_0 a0_1 l0_2 a1_0 a1_1 l1_2) else (if t336 > 1 then (ententelaw03_IdentOrder.j0 k t336 true a0_0 a0_1 l0_2 a1_0 a1_1 l1_2) else (if t336 ≤ 0 then (if t337 ≤ 0 then (if t338 > 0 then (ententelaw03_IdentOrder.j0 k t336 true a0_0 a0_1 l0_2 a1_0 a1_1 l1_2) else (if t336 < 0 then (if t338 ≥ 0 then (ententelaw03_IdentOrder.j0 k t336 true a0_0 a0_1 l0_2 a1_0 a1_1 l1_2) else ((ident_Cmp.f k a0_0 a0_1 l0_2 a0_0 a0_1 l0_2).bind fun t340 => (ententelaw03_IdentOrder.j0 k t336 (t340 != 0) a0_0 a0_1 l0_2 a1_0 a1_1 l1_2))) else ((ident_Cmp.f k a0_0 a0_1 l0_2 a0_0 a0_1 l0_2).bind fun t341 => (ententelaw03_IdentOrder.j0 k t336 (t341 != 0) a0_0 a0_1 l0_2 a1_0 a1_1 l1_2)))) else (if t336 < 0 then ((ident_Cmp.f k a0_0 a0_1 l0_2 a0_0 a0_1 l0_2).bind fun t342 => (ententelaw03_IdentOrder.j0 k t336 (t342 != 0) a0_0 a0_1 l0_2 a1_0 a1_1 l1_2)) else ((ident_Cmp.f k a0_0 a0_1 l0_2 a0_0 a0_1 l0_2).bind fun t343 => (ententelaw03_IdentOrder.j0 k t336 (t343 != 0) a0_0 a0_1 l0_2 a1_0 a1_1 l1_2)))) else (if t336 < 0 then (if t337 ≤ 0 then (if t338 ≥ 0 then (ententelaw03_IdentOrder.j0 k t336 true a0_0 a0_1 l0_2 a1_0 a1_1 l1_2) else ((ident_Cmp.f k a0_0 a0_1 l0_2 a0_0 a0_1 l0_2).bind fun t344 => (ententelaw03_IdentOrder.j0 k t336 (t344 != 0) a0_0 a0_1 l0_2 a1_0 a1_1 l1_2))) else ((ident_Cmp.f k a0_0 a0_1 l0_2 a0_0 a0_1 l0_2).bind fun t345 => (ententelaw03_IdentOrder.j0 k t336 (t345 != 0) a0_0 a0_1 l0_2 a1_0 a1_1 l1_2))) else ((ident_Cmp.f k a0_0 a0_1 l0_2 a0_0 a0_1 l0_2).bind fun t346 => (ententelaw03_IdentOrder.j0 k t336 (t346 != 0) a0_0 a0_1 l0_2 a1_0 a1_1 l1_2)))))) else (ententelaw03_IdentOrder.j0 k t336 true a0_0 a0_1 l0_2 a1_0 a1_1 l1_2)) = some r := H
   have A26 := Aside0.mk A260
   clear A260
   by_cases c27 : t336 = (wrap64 (-t339))
   ·rw [if_pos c27] at H
    have c27b0 : (t336 == (wrap64 (-t339))) = true := beq_iff_eq.mpr c27
    have c27b1 : (t336 != (wrap64 (-t339))) = false := bne_eq_false_iff_eq.mpr c27
    clear c27
    (first | rw [c27b0] | (simp only [i64_w, i32_w]; rw [c27b0]) | skip)
    by_cases c28 : t336 < (-1)
    ·rw [if_pos c28] at H
     have c28b0 : decide (t336 < (-1)) = true := decide_eq_true c28
     clear c28
     have H' := Aside0.mk H
     clear H
     have hnb29 := NB329_328.out
     have hnc29 := NB328_329.out
     have hnb30 := NB329_330.out
     have hnc30 := NB330_329.out
     have hcz31_0 : w25.cell? ⟨gb329, 0, none⟩ = some (.int .i64 a1_0) := (blk_cell BK329.out 0).trans rfl
     have hcz31_1 : w25.cell? ⟨gb329, 1, none⟩ = some (.int .i64 a1_1) := (blk_cell BK329.out 1).trans rfl
     have hcz31_2 : w25.cell? ⟨gb329, 2, none⟩ = some (.slice A1_2 l1_2.length c1_2) := (blk_cell BK329.out 2).trans rfl
     have hfz31_0 := blk_frozen BK329.out 0
     have hfz31_1 := blk_frozen BK329.out 1
     have hfz31_2 := blk_frozen BK329.out 2
     have hnb32 := NB328_330.out
     have hnc32 := NB330_328.out
     have hcz33_0 : w25.cell? ⟨gb328, 0, none⟩ = some (.int .i64 a0_0) := (blk_cell BK328.out 0).trans rfl
     have hcz33_1 : w25.cell? ⟨gb328, 1, none⟩ = some (.int .i64 a0_1) := (blk_cell BK328.out 1).trans rfl
     have hcz33_2 : w25.cell? ⟨gb328, 2, none⟩ = some (.slice A0_2 l0_2.length c0_2) := (blk_cell BK328.out 2).trans rfl
     have hfz33_0 := blk_frozen BK328.out 0
     have hfz33_1 := blk_frozen BK328.out 1
     have hfz33_2 := blk_frozen BK328.out 2
     go_wp2_with (first | ((with_reducible refine gate_callee (f := 17) rfl ?_); refine goesL_ (some 32) rfl rfl Tryd.func17 (by kernel_rfl) rfl #[.agg #[.int .i64 a1_0, .int .i64 a1_1, .slice A1_2 l1_2.length c1_2], .agg #[.int .i64 a0_0, .int .i64 a0_1, .slice A0_2 l0_2.length c0_2]] rfl (by (try simp only [List.map_toArray, List.map_cons, List.map_nil]); first | done | rfl | (simp only [List.length_drop, List.length_take]; rfl)) ?_; (with_reducible refine (ident_Cmp.calls k a1_0 a1_1 _ _ l1_2 a0_0 a0_1 _ _ l0_2 t339 _ ?side1 ?side2 ?side3 ?side4 A26.out).mono ?_); (case side1 => exact (Kd.V_reads' HO1_2.out).2.2); (case side2 => exact (Kd.V_reads' HO1_2.out).2.1); (case side3 => exact (Kd.V_reads' HO0_2.out).2.2); (case side4 => exact (Kd.V_reads' HO0_2.out).2.1); rintro e w34 ⟨rfl, hb⟩; refine ⟨_, rfl, ?_⟩; have n0_ := Aside0.mk (Kd.V_below (by exact HO0_2.out) hb); have n1_ := Aside0.mk (Kd.V_below (by exact HO1_2.out) hb); have n2_ := Aside0.mk (Kd.V_below (by exact HO2_2.out) hb); have n3_ := Aside0.mk (blk_below (g := gb328) (o := .cells #[.int .i64 a0_0, .int .i64 a0_1, .slice A0_2 l0_2.length c0_2] 24 (0, 0)) (by exact BK328.out) hb); have n4_ := Aside0.mk (blk_below (g := gb329) (o := .cells #[.int .i64 a1_0, .int .i64 a1_1, .slice A1_2 l1_2.length c1_2] 24 (0, 0)) (by exact BK329.out) hb); have n5_ := Aside0.mk (blk_below (g := gb330) (o := .cells #[.int .i64 a2_0, .int .i64 a2_1, .slice A2_2 l2_2.length c2_2] 24 (0, 0)) (by exact BK330.out) hb); have n6_ := Aside0.mk (below_step HB.out hb); clear HO0_2; clear HO1_2; clear HO2_2; clear BK328; clear BK329; clear BK330; clear HB; have HO0_2 := n0_; have HO1_2 := n1_; have HO2_2 := n2_; have BK328 := n3_; have BK329 := n4_; have BK330 := n5_; have HB := n6_; clear n0_ n1_ n2_ n3_ n4_ n5_ n6_; (try clear hb); (try clear hb2); (try clear hk); (try clear hi)))
     go_meet
     case rel => exact ⟨_, (true), (by first | rfl | (simp; done) | (simp [*]; done) | (simp; exact (by decide : ∀ x y : Bool, (x == y) = (!x != y)) _ _)), H', ⟨by first | omega | exact Nat.le_refl _⟩, ⟨by first | exact HO0_2.out | exact Kd.V_mono HO0_2.out (fun _ hk => ⟨hk.1.1.1.1, ⟨hk.1.1.1.2, ⟨hk.1.1.2, hk.1.2⟩⟩⟩)⟩, ⟨by first | exact HO1_2.out | exact Kd.V_mono HO1_2.out (fun _ hk => ⟨hk.1.1.1.1, ⟨hk.1.1.1.2, ⟨hk.1.1.2, hk.1.2⟩⟩⟩)⟩, ⟨by first | exact HO2_2.out | exact Kd.V_mono HO2_2.out (fun _ hk => ⟨hk.1.1.1.1, ⟨hk.1.1.1.2, ⟨hk.1.1.2, hk.1.2⟩⟩⟩)⟩, ⟨by exact BK328.out⟩, ⟨by exact BK329.out⟩, ⟨by exact BK330.out⟩, ⟨HB.out⟩⟩
    ·rw [if_neg c28] at H
     have c28b0 : decide (t336 < (-1)) = false := decide_eq_false c28
     clear c28
     by_cases c35 : t336 > 1
     ·rw [if_pos c35] at H
      have c35b0 : decide (1 < t336) = true := decide_eq_true c35
      clear c35
      have H' := Aside0.mk H
      clear H
      have hnb36 := NB329_328.out
      have hnc36 := NB328_329.out
      have hnb37 := NB329_330.out
      have hnc37 := NB330_329.out
      have hcz38_0 : w25.cell? ⟨gb329, 0, none⟩ = some (.int .i64 a1_0) := (blk_cell BK329.out 0).trans rfl
      have hcz38_1 : w25.cell? ⟨gb329, 1, none⟩ = some (.int .i64 a1_1) := (blk_cell BK329.out 1).trans rfl
      have hcz38_2 : w25.cell? ⟨gb329, 2, none⟩ = some (.slice A1_2 l1_2.length c1_2) := (blk_cell BK329.out 2).trans rfl
      have hfz38_0 := blk_frozen BK329.out 0
      have hfz38_1 := blk_frozen BK329.out 1
      have hfz38_2 := blk_frozen BK329.out 2
      have hnb39 := NB328_330.out
      have hnc39 := NB330_328.out
      have hcz40_0 : w25.cell? ⟨gb328, 0, none⟩ = some (.int .i64 a0_0) := (blk_cell BK328.out 0).trans rfl
      have hcz40_1 : w25.cell? ⟨gb328, 1, none⟩ = some (.int .i64 a0_1) := (blk_cell BK328.out 1).trans rfl
      have hcz40_2 : w25.cell? ⟨gb328, 2, none⟩ = some (.slice A0_2 l0_2.length c0_2) := (blk_cell BK328.out 2).trans rfl
      have hfz40_0 := blk_frozen BK328.out 0
      have hfz40_1 := blk_frozen BK328.out 1
      have hfz40_2 := blk_frozen BK328.out 2
      go_wp2_with (first | ((with_reducible refine gate_callee (f := 17) rfl ?_); refine goesL_ (some 32) rfl rfl Tryd.func17 (by kernel_rfl) rfl #[.agg #[.int .i64 a1_0, .int .i64 a1_1, .slice A1_2 l1_2.length c1_2], .agg #[.int .i64 a0_0, .int .i64 a0_1, .slice A0_2 l0_2.length c0_2]] rfl (by (try simp only [List.map_toArray, List.map_cons, List.map_nil]); first | done | rfl | (simp only [List.length_drop, List.length_take]; rfl)) ?_; (with_reducible refine (ident_Cmp.calls k a1_0 a1_1 _ _ l1_2 a0_0 a0_1 _ _ l0_2 t339 _ ?side1 ?side2 ?side3 ?side4 A26.out).mono ?_); (case side1 => exact (Kd.V_reads' HO1_2.out).2.2); (case side2 => exact (Kd.V_reads' HO1_2.out).2.1); (case side3 => exact (Kd.V_reads' HO0_2.out).2.2); (case side4 => exact (Kd.V_reads' HO0_2.out).2.1); rintro e w41 ⟨rfl, hb⟩; refine ⟨_, rfl, ?_⟩; have n0_ := Aside0.mk (Kd.V_below (by exact HO0_2.out) hb); have n1_ := Aside0.mk (Kd.V_below (by exact HO1_2.out) hb); have n2_ := Aside0.mk (Kd.V_below (by exact HO2_2.out) hb); have n3_ := Aside0.mk (blk_below (g := gb328) (o := .cells #[.int .i64 a0_0, .int .i64 a0_1, .slice A0_2 l0_2.length c0_2] 24 (0, 0)) (by exact BK328.out) hb); have n4_ := Aside0.mk (blk_below (g := gb329) (o := .cells #[.int .i64 a1_0, .int .i64 a1_1, .slice A1_2 l1_2.length c1_2] 24 (0, 0)) (by exact BK329.out) hb); have n5_ := Aside0.mk (blk_below (g := gb330) (o := .cells #[.int .i64 a2_0, .int .i64 a2_1, .slice A2_2 l2_2.length c2_2] 24 (0, 0)) (by exact BK330.out) hb); have n6_ := Aside0.mk (below_step HB.out hb); clear HO0_2; clear HO1_2; clear HO2_2; clear BK328; clear BK329; clear BK330; clear HB; have HO0_2 := n0_; have HO1_2 := n1_; have HO2_2 := n2_; have BK328 := n3_; have BK329 := n4_; have BK330 := n5_; have HB := n6_; clear n0_ n1_ n2_ n3_ n4_ n5_ n6_; (try clear hb); (try clear hb2); (try clear hk); (try clear hi)))
      go_meet
      case rel => exact ⟨_, (true), (by first | rfl | (simp; done) | (simp [*]; done) | (simp; exact (by decide : ∀ x y : Bool, (x == y) = (!x != y)) _ _)), H', ⟨by first | omega | exact Nat.le_refl _⟩, ⟨by first | exact HO0_2.out | exact Kd.V_mono HO0_2.out (fun _ hk => ⟨hk.1.1.1.1, ⟨hk.1.1.1.2, ⟨hk.1.1.2, hk.1.2⟩⟩⟩)⟩, ⟨by first | exact HO1_2.out | exact Kd.V_mono HO1_2.out (fun _ hk => ⟨hk.1.1.1.1, ⟨hk.1.1.1.2, ⟨hk.1.1.2, hk.1.2⟩⟩⟩)⟩, ⟨by first | exact HO2_2.out | exact Kd.V_mono HO2_2.out (fun _ hk => ⟨hk.1.1.1.1, ⟨hk.1.1.1.2, ⟨hk.1.1.2, hk.1.2⟩⟩⟩)⟩, ⟨by exact BK328.out⟩, ⟨by exact BK329.out⟩, ⟨by exact BK330.out⟩, ⟨HB.out⟩⟩
     ·rw [if_neg c35] at H
      have c35b0 : decide (1 < t336) = false := decide_eq_false c35
      clear c35
      by_cases c42 : t336 ≤ 0
      ·rw [if_pos c42] at H
       have c42b0 : decide (t336 ≤ 0) = true := decide_eq_true c42
       clear c42
       by_cases c43 : t337 ≤ 0
       ·rw [if_pos c43] at H
        have c43b0 : decide (t337 ≤ 0) = true := decide_eq_true c43
        clear c43
        by_cases c44 : t338 > 0
        ·rw [if_pos c44] at H
         have c44b0 : decide (0 < t338) = true := decide_eq_true c44
         clear c44
         have H' := Aside0.mk H
         clear H
         have hnb45 := NB329_328.out
         have hnc45 := NB328_329.out
         have hnb46 := NB329_330.out
         have hnc46 := NB330_329.out
         have hcz47_0 : w25.cell? ⟨gb329, 0, none⟩ = some (.int .i64 a1_0) := (blk_cell BK329.out 0).trans rfl
         have hcz47_1 : w25.cell? ⟨gb329, 1, none⟩ = some (.int .i64 a1_1) := (blk_cell BK329.out 1).trans rfl
         have hcz47_2 : w25.cell? ⟨gb329, 2, none⟩ = some (.slice A1_2 l1_2.length c1_2) := (blk_cell BK329.out 2).trans rfl
         have hfz47_0 := blk_frozen BK329.out 0
         have hfz47_1 := blk_frozen BK329.out 1
         have hfz47_2 := blk_frozen BK329.out 2
         have hnb48 := NB328_330.out
         have hnc48 := NB330_328.out
         have hcz49_0 : w25.cell? ⟨gb328, 0, none⟩ = some (.int .i64 a0_0) := (blk_cell BK328.out 0).trans rfl
         have hcz49_1 : w25.cell? ⟨gb328, 1, none⟩ = some (.int .i64 a0_1) := (blk_cell BK328.out 1).trans rfl
         have hcz49_2 : w25.cell? ⟨gb328, 2, none⟩ = some (.slice A0_2 l0_2.length c0_2) := (blk_cell BK328.out 2).trans rfl
         have hfz49_0 := blk_frozen BK328.out 0
         have hfz49_1 := blk_frozen BK328.out 1
         have hfz49_2 := blk_frozen BK328.out 2
         go_wp2_with (first | ((with_reducible refine gate_callee (f := 17) rfl ?_); refine goesL_ (some 32) rfl rfl Tryd.func17 (by kernel_rfl) rfl #[.agg #[.int .i64 a1_0, .int .i64 a1_1, .slice A1_2 l1_2.length c1_2], .agg #[.int .i64 a0_0, .int .i64 a0_1, .slice A0_2 l0_2.length c0_2]] rfl (by (try simp only [List.map_toArray, List.map_cons, List.map_nil]); first | done | rfl | (simp only [List.length_drop, List.length_take]; rfl)) ?_; (with_reducible refine (ident_Cmp.calls k a1_0 a1_1 _ _ l1_2 a0_0 a0_1 _ _ l0_2 t339 _ ?side1 ?side2 ?side3 ?side4 A26.out).mono ?_); (case side1 => exact (Kd.V_reads' HO1_2.out).2.2); (case side2 => exact (Kd.V_reads' HO1_2.out).2.1); (case side3 => exact (Kd.V_reads' HO0_2.out).2.2); (case side4 => exact (Kd.V_reads' HO0_2.out).2.1); rintro e w50 ⟨rfl, hb⟩; refine ⟨_, rfl, ?_⟩; have n0_ := Aside0.mk (Kd.V_below (by exact HO0_2.out) hb); have n1_ := Aside0.mk (Kd.V_below (by exact HO1_2.out) hb); have n2_ := Aside0.mk (Kd.V_below (by exact HO2_2.out) hb); have n3_ := Aside0.mk (blk_below (g := gb328) (o := .cells #[.int .i64 a0_0, .int .i64 a0_1, .slice A0_2 l0_2.length c0_2] 24 (0, 0)) (by exact BK328.out) hb); have n4_ := Aside0.mk (blk_below (g := gb329) (o := .cells #[.int .i64 a1_0, .int .i64 a1_1, .slice A1_2 l1_2.length c1_2] 24 (0, 0)) (by exact BK329.out) hb); have n5_ := Aside0.mk (blk_below (g := gb330) (o := .cells #[.int .i64 a2_0, .int .i64 a2_1, .slice A2_2 l2_2.length c2_2] 24 (0, 0)) (by exact BK330.out) hb); have n6_ := Aside0.mk (below_step HB.out hb); clear HO0_2; clear HO1_2; clear HO2_2; clear BK328; clear BK329; clear BK330; clear HB; have HO0_2 := n0_; have HO1_2 := n1_; have HO2_2 := n2_; have BK328 := n3_; have BK329 := n4_; have BK330 := n5_; have HB := n6_; clear n0_ n1_ n2_ n3_ n4_ n5_ n6_; (try clear hb); (try clear hb2); (try clear hk); (try clear hi)))
         go_meet
         case rel => exact ⟨_, (true), (by first | rfl | (simp; done) | (simp [*]; done) | (simp; exact (by decide : ∀ x y : Bool, (x == y) = (!x != y)) _ _)), H', ⟨by first | omega | exact Nat.le_refl _⟩, ⟨by first | exact HO0_2.out | exact Kd.V_mono HO0_2.out (fun _ hk => ⟨hk.1.1.1.1, ⟨hk.1.1.1.2, ⟨hk.1.1.2, hk.1.2⟩⟩⟩)⟩, ⟨by first | exact HO1_2.out | exact Kd.V_mono HO1_2.out (fun _ hk => ⟨hk.1.1.1.1, ⟨hk.1.1.1.2, ⟨hk.1.1.2, hk.1.2⟩⟩⟩)⟩, ⟨by first | exact HO2_2.out | exact Kd.V_mono HO2_2.out (fun _ hk => ⟨hk.1.1.1.1, ⟨hk.1.1.1.2, ⟨hk.1.1.2, hk.1.2⟩⟩⟩)⟩, ⟨by exact BK328.out⟩, ⟨by exact BK329.out⟩, ⟨by exact BK330.out⟩, ⟨HB.out⟩⟩
        ·rw [if_neg c44] at H
         have c44b0 : decide (0 < t338) = false := decide_eq_false c44
         clear c44
         by_cases c51 : t336 < 0
         ·rw [if_pos c51] at H
          have c51b0 : decide (t336 < 0) = true := decide_eq_true c51
          clear c51
          by_cases c52 : t338 ≥ 0
          ·rw [if_pos c52] at H
           have c52b0 : decide (0 ≤ t338) = true := decide_eq_true c52
           clear c52
           have H' := Aside0.mk H
           clear H
           have hnb53 := NB329_328.out
           have hnc53 := NB328_329.out
           have hnb54 := NB329_330.out
           have hnc54 := NB330_329.out
           have hcz55_0 : w25.cell? ⟨gb329, 0, none⟩ = some (.int .i64 a1_0) := (blk_cell BK329.out 0).trans rfl
           have hcz55_1 : w25.cell? ⟨gb329, 1, none⟩ = some (.int .i64 a1_1) := (blk_cell BK329.out 1).trans rfl
           have hcz55_2 : w25.cell? ⟨gb329, 2, none⟩ = some (.slice A1_2 l1_2.length c1_2) := (blk_cell BK329.out 2).trans rfl
           have hfz55_0 := blk_frozen BK329.out 0
           have hfz55_1 := blk_frozen BK329.out 1
           have hfz55_2 := blk_frozen BK329.out 2
           have hnb56 := NB328_330.out
           have hnc56 := NB330_328.out
           have hcz57_0 : w25.cell? ⟨gb328, 0, none⟩ = some (.int .i64 a0_0) := (blk_cell BK328.out 0).trans rfl
           have hcz57_1 : w25.cell? ⟨gb328, 1, none⟩ = some (.int .i64 a0_1) := (blk_cell BK328.out 1).trans rfl
           have hcz57_2 : w25.cell? ⟨gb328, 2, none⟩ = some (.slice A0_2 l0_2.length c0_2) := (blk_cell BK328.out 2).trans rfl
           have hfz57_0 := blk_frozen BK328.out 0
           have hfz57_1 := blk_frozen BK328.out 1
           have hfz57_2 := blk_frozen BK328.out 2
           go_wp2_with (first | ((with_reducible refine gate_callee (f := 17) rfl ?_); refine goesL_ (some 32) rfl rfl Tryd.func17 (by kernel_rfl) rfl #[.agg #[.int .i64 a1_0, .int .i64 a1_1, .slice A1_2 l1_2.length c1_2], .agg #[.int .i64 a0_0, .int .i64 a0_1, .slice A0_2 l0_2.length c0_2]] rfl (by (try simp only [List.map_toArray, List.map_cons, List.map_nil]); first | done | rfl | (simp only [List.length_drop, List.length_take]; rfl)) ?_; (with_reducible refine (ident_Cmp.calls k a1_0 a1_1 _ _ l1_2 a0_0 a0_1 _ _ l0_2 t339 _ ?side1 ?side2 ?side3 ?side4 A26.out).mono ?_); (case side1 => exact (Kd.V_reads' HO1_2.out).2.2); (case side2 => exact (Kd.V_reads' HO1_2.out).2.1); (case side3 => exact (Kd.V_reads' HO0_2.out).2.2); (case side4 => exact (Kd.V_reads' HO0_2.out).2.1); rintro e w58 ⟨rfl, hb⟩; refine ⟨_, rfl, ?_⟩; have n0_ := Aside0.mk (Kd.V_below (by exact HO0_2.out) hb); have n1_ := Aside0.mk (Kd.V_below (by exact HO1_2.out) hb); have n2_ := Aside0.mk (Kd.V_below (by exact HO2_2.out) hb); have n3_ := Aside0.mk (blk_below (g := gb328) (o := .cells #[.int .i64 a0_0, .int .i64 a0_1, .slice A0_2 l0_2.length c0_2] 24 (0, 0)) (by exact BK328.out) hb); have n4_ := Aside0.mk (blk_below (g := gb329) (o := .cells #[.int .i64 a1_0, .int .i64 a1_1, .slice A1_2 l1_2.length c1_2] 24 (0, 0)) (by exact BK329.out) hb); have n5_ := Aside0.mk (blk_below (g := gb330) (o := .cells #[.int .i64 a2_0, .int .i64 a2_1, .slice A2_2 l2_2.length c2_2] 24 (0, 0)) (by exact BK330.out) hb); have n6_ := Aside0.mk (below_step HB.out hb); clear HO0_2; clear HO1_2; clear HO2_2; clear BK328; clear BK329; clear BK330; clear HB; have HO0_2 := n0_; have HO1_2 := n1_; have HO2_2 := n2_; have BK328 := n3_; have BK329 := n4_; have BK330 := n5_; have HB := n6_; clear n0_ n1_ n2_ n3_ n4_ n5_ n6_; (try clear hb); (try clear hb2); (try clear hk); (try clear hi)))
           go_meet
           case rel => exact ⟨_, (true), (by first | rfl | (simp; done) | (simp [*]; done) | (simp; exact (by decide : ∀ x y : Bool, (x == y) = (!x != y)) _ _)), H', ⟨by first | omega | exact Nat.le_refl _⟩, ⟨by first | exact HO0_2.out | exact Kd.V_mono HO0_2.out (fun _ hk => ⟨hk.1.1.1.1, ⟨hk.1.1.1.2, ⟨hk.1.1.2, hk.1.2⟩⟩⟩)⟩, ⟨by first | exact HO1_2.out | exact Kd.V_mono HO1_2.out (fun _ hk => ⟨hk.1.1.1.1, ⟨hk.1.1.1.2, ⟨hk.1.1.2, hk.1.2⟩⟩⟩)⟩, ⟨by first | exact HO2_2.out | exact Kd.V_mono HO2_2.out (fun _ hk => ⟨hk.1.1.1.1, ⟨hk.1.1.1.2, ⟨hk.1.1.2, hk.1.2⟩⟩⟩)⟩, ⟨by exact BK328.out⟩, ⟨by exact BK329.out⟩, ⟨by exact BK330.out⟩, ⟨HB.out⟩⟩
          ·rw [if_neg c52] at H
           have c52b0 : decide (0 ≤ t338) = false := decide_eq_false c52
           clear c52
           replace H := Option.bind_eq_some_iff.mp H
           obtain ⟨t340, A590, H⟩ := H
           replace H : (ententelaw03_IdentOrder.j0 k t336 (t340 != 0) a0_0 a0_1 l0_2 a1_0 a1_1 l1_2) = some r := H
           have A59 := Aside0.mk A590
           clear A590
           have H' := Aside0.mk H
           clear H
           have hnb60 := NB329_328.out
           have hnc60 := NB328_329.out
           have hnb61 := NB329_330.out
           have hnc61 := NB330_329.out
           have hcz62_0 : w25.cell? ⟨gb329, 0, none⟩ = some (.int .i64 a1_0) := (blk_cell BK329.out 0).trans rfl
           have hcz62_1 : w25.cell? ⟨gb329, 1, none⟩ = some (.int .i64 a1_1) := (blk_cell BK329.out 1).trans rfl
           have hcz62_2 : w25.cell? ⟨gb329, 2, none⟩ = some (.slice A1_2 l1_2.length c1_2) := (blk_cell BK329.out 2).trans rfl
           have hfz62_0 := blk_frozen BK329.out 0
           have hfz62_1 := blk_frozen BK329.out 1
           have hfz62_2 := blk_frozen BK329.out 2
           have hnb63 := NB328_330.out
           have hnc63 := NB330_328.out
           have hcz64_0 : w25.cell? ⟨gb328, 0, none⟩ = some (.int .i64 a0_0) := (blk_cell BK328.out 0).trans rfl
           have hcz64_1 : w25.cell? ⟨gb328, 1, none⟩ = some (.int .i64 a0_1) := (blk_cell BK328.out 1).trans rfl
           have hcz64_2 : w25.cell? ⟨gb328, 2, none⟩ = some (.slice A0_2 l0_2.length c0_2) := (blk_cell BK328.out 2).trans rfl
           have hfz64_0 := blk_frozen BK328.out 0
           have hfz64_1 := blk_frozen BK328.out 1
           have hfz64_2 := blk_frozen BK328.out 2
           go_wp2_with (first | ((with_reducible refine gate_callee (f := 17) rfl ?_); refine goesL_ (some 32) rfl rfl Tryd.func17 (by kernel_rfl) rfl #[.agg #[.int .i64 a1_0, .int .i64 a1_1, .slice A1_2 l1_2.length c1_2], .agg #[.int .i64 a0_0, .int .i64 a0_1, .slice A0_2 l0_2.length c0_2]] rfl (by (try simp only [List.map_toArray, List.map_cons, List.map_nil]); first | done | rfl | (simp only [List.length_drop, List.length_take]; rfl)) ?_; (with_reducible refine (ident_Cmp.calls k a1_0 a1_1 _ _ l1_2 a0_0 a0_1 _ _ l0_2 t339 _ ?side1 ?side2 ?side3 ?side4 A26.out).mono ?_); (case side1 => exact (Kd.V_reads' HO1_2.out).2.2); (case side2 => exact (Kd.V_reads' HO1_2.out).2.1); (case side3 => exact (Kd.V_reads' HO0_2.out).2.2); (case side4 => exact (Kd.V_reads' HO0_2.out).2.1); rintro e w65 ⟨rfl, hb⟩; refine ⟨_, rfl, ?_⟩; have n0_ := Aside0.mk (Kd.V_below (by exact HO0_2.out) hb); have n1_ := Aside0.mk (Kd.V_below (by exact HO1_2.out) hb); have n2_ := Aside0.mk (Kd.V_below (by exact HO2_2.out) hb); have n3_ := Aside0.mk (blk_below (g := gb328) (o := .cells #[.int .i64 a0_0, .int .i64 a0_1, .slice A0_2 l0_2.length c0_2] 24 (0, 0)) (by exact BK328.out) hb); have n4_ := Aside0.mk (blk_below (g := gb329) (o := .cells #[.int .i64 a1_0, .int .i64 a1_1, .slice A1_2 l1_2.length c1_2] 24 (0, 0)) (by exact BK329.out) hb); have n5_ := Aside0.mk (blk_below (g := gb330) (o := .cells #[.int .i64 a2_0, .int .i64 a2_1, .slice A2_2 l2_2.length c2_2] 24 (0, 0)) (by exact BK330.out) hb); have n6_ := Aside0.mk (below_step HB.out hb); clear HO0_2; clear HO1_2; clear HO2_2; clear BK328; clear BK329; clear BK330; clear HB; have HO0_2 := n0_; have HO1_2 := n1_; have HO2_2 := n2_; have BK328 := n3_; have BK329 := n4_; have BK330 := n5_; have HB := n6_; clear n0_ n1_ n2_ n3_ n4_ n5_ n6_; (try clear hb); (try clear hb2); (try clear hk); (try clear hi); have hcz66_0 : w65.cell? ⟨gb328, 0, none⟩ = some (.int .i64 a0_0) := (blk_cell BK328.out 0).trans rfl; have hcz66_1 : w65.cell? ⟨gb328, 1, none⟩ = some (.int .i64 a0_1) := (blk_cell BK328.out 1).trans rfl; have hcz66_2 : w65.cell? ⟨gb328, 2, none⟩ = some (.slice A0_2 l0_2.length c0_2) := (blk_cell BK328.out 2).trans rfl; have hfz66_0 := blk_frozen BK328.out 0; have hfz66_1 := blk_frozen BK328.out 1; have hfz66_2 := blk_frozen BK328.out 2) | (go_at_call 17; (with_reducible refine (ident_Cmp.calls k a0_0 a0_1 _ _ l0_2 a0_0 a0_1 _ _ l0_2 t340 _ ?side1 ?side2 ?side3 ?side4 A59.out).mono ?_); (case side1 => exact (Kd.V_reads' HO0_2.out).2.2); (case side2 => exact (Kd.V_reads' HO0_2.out).2.1); (case side3 => exact (Kd.V_reads' HO0_2.out).2.2); (case side4 => exact (Kd.V_reads' HO0_2.out).2.1); rintro e w67 ⟨rfl, hb⟩; have n0_ := Aside0.mk (Kd.V_below (by exact HO0_2.out) hb); have n1_ := Aside0.mk (Kd.V_below (by exact HO1_2.out) hb); have n2_ := Aside0.mk (Kd.V_below (by exact HO2_2.out) hb); have n3_ := Aside0.mk (blk_below (g := gb328) (o := .cells #[.int .i64 a0_0, .int .i64 a0_1, .slice A0_2 l0_2.length c0_2] 24 (0, 0)) (by exact BK328.out) hb); have n4_ := Aside0.mk (blk_below (g := gb329) (o := .cells #[.int .i64 a1_0, .int .i64 a1_1, .slice A1_2 l1_2.length c1_2] 24 (0, 0)) (by exact BK329.out) hb); have n5_ := Aside0.mk (blk_below (g := gb330) (o := .cells #[.int .i64 a2_0, .int .i64 a2_1, .slice A2_2 l2_2.length c2_2] 24 (0, 0)) (by exact BK330.out) hb); have n6_ := Aside0.mk (below_step HB.out hb); clear HO0_2; clear HO1_2; clear HO2_2; clear BK328; clear BK329; clear BK330; clear HB; have HO0_2 := n0_; have HO1_2 := n1_; have HO2_2 := n2_; have BK328 := n3_; have BK329 := n4_; have BK330 := n5_; have HB := n6_; clear n0_ n1_ n2_ n3_ n4_ n5_ n6_; (try clear hb); (try clear hb2); (try clear hk); (try clear hi)))
           go_meet
           case rel => exact ⟨_, ((t340 != 0)), (by first | rfl | (simp; done) | (simp [*]; done) | (simp; exact (by decide : ∀ x y : Bool, (x == y) = (!x != y)) _ _)), H', ⟨by first | omega | exact Nat.le_refl _⟩, ⟨by first | exact HO0_2.out | exact Kd.V_mono HO0_2.out (fun _ hk => ⟨hk.1.1.1.1, ⟨hk.1.1.1.2, ⟨hk.1.1.2, hk.1.2⟩⟩⟩)⟩, ⟨by first | exact HO1_2.out | exact Kd.V_mono HO1_2.out (fun _ hk => ⟨hk.1.1.1.1, ⟨hk.1.1.1.2, ⟨hk.1.1.2, hk.1.2⟩⟩⟩)⟩, ⟨by first | exact HO2_2.out | exact Kd.V_mono HO2_2.out (fun _ hk => ⟨hk.1.1.1.1, ⟨hk.1.1.1.2, ⟨hk.1.1.2, hk.1.2⟩⟩⟩)⟩, ⟨by exact BK328.out⟩, ⟨by exact BK329.out⟩, ⟨by exact BK330.out⟩, ⟨HB.out⟩⟩
         ·rw [if_neg c51] at H
          have c51b0 : decide (t336 < 0) = false := decide_eq_false c51
          clear c51
          replace H := Option.bind_eq_some_iff.mp H
          obtain ⟨t341, A680, H⟩ := H
          replace H : (ententelaw03_IdentOrder.j0 k t336 (t341 != 0) a0_0 a0_1 l0_2 a1_0 a1_1 l1_2) = some r := H
          have A68 := Aside0.mk A680
          clear A680
          have H' := Aside0.mk H
          clear H
          have hnb69 := NB329_328.out
          have hnc69 := NB328_329.out
          have hnb70 := NB329_330.out
          have hnc70 := NB330_329.out
          have hcz71_0 : w25.cell? ⟨gb329, 0, none⟩ = some (.int .i64 a1_0) := (blk_cell BK329.out 0).trans rfl
          have hcz71_1 : w25.cell? ⟨gb329, 1, none⟩ = some (.int .i64 a1_1) := (blk_cell BK329.out 1).trans rfl
          have hcz71_2 : w25.cell? ⟨gb329, 2, none⟩ = some (.slice A1_2 l1_2.length c1_2) := (blk_cell BK329.out 2).trans rfl
          have hfz71_0 := blk_frozen BK329.out 0
          have hfz71_1 := blk_frozen BK329.out 1
          have hfz71_2 := blk_frozen BK329.out 2
          have hnb72 := NB328_330.out
          have hnc72 := NB330_328.out
          have hcz73_0 : w25.cell? ⟨gb328, 0, none⟩ = some (.int .i64 a0_0) := (blk_cell BK328.out 0).trans rfl
          have hcz73_1 : w25.cell? ⟨gb328, 1, none⟩ = some (.int .i64 a0_1) := (blk_cell BK328.out 1).trans rfl
          have hcz73_2 : w25.cell? ⟨gb328, 2, none⟩ = some (.slice A0_2 l0_2.length c0_2) := (blk_cell BK328.out 2).trans rfl
          have hfz73_0 := blk_frozen BK328.out 0
          have hfz73_1 := blk_frozen BK328.out 1
          have hfz73_2 := blk_frozen BK328.out 2
          go_wp2_with (first | ((with_reducible refine gate_callee (f := 17) rfl ?_); refine goesL_ (some 32) rfl rfl Tryd.func17 (by kernel_rfl) rfl #[.agg #[.int .i64 a1_0, .int .i64 a1_1, .slice A1_2 l1_2.length c1_2], .agg #[.int .i64 a0_0, .int .i64 a0_1, .slice A0_2 l0_2.length c0_2]] rfl (by (try simp only [List.map_toArray, List.map_cons, List.map_nil]); first | done | rfl | (simp only [List.length_drop, List.length_take]; rfl)) ?_; (with_reducible refine (ident_Cmp.calls k a1_0 a1_1 _ _ l1_2 a0_0 a0_1 _ _ l0_2 t339 _ ?side1 ?side2 ?side3 ?side4 A26.out).mono ?_); (case side1 => exact (Kd.V_reads' HO1_2.out).2.2); (case side2 => exact (Kd.V_reads' HO1_2.out).2.1); (case side3 => exact (Kd.V_reads' HO0_2.out).2.2); (case side4 => exact (Kd.V_reads' HO0_2.out).2.1); rintro e w74 ⟨rfl, hb⟩; refine ⟨_, rfl, ?_⟩; have n0_ := Aside0.mk (Kd.V_below (by exact HO0_2.out) hb); have n1_ := Aside0.mk (Kd.V_below (by exact HO1_2.out) hb); have n2_ := Aside0.mk (Kd.V_below (by exact HO2_2.out) hb); have n3_ := Aside0.mk (blk_below (g := gb328) (o := .cells #[.int .i64 a0_0, .int .i64 a0_1, .slice A0_2 l0_2.length c0_2] 24 (0, 0)) (by exact BK328.out) hb); have n4_ := Aside0.mk (blk_below (g := gb329) (o := .cells #[.int .i64 a1_0, .int .i64 a1_1, .slice A1_2 l1_2.length c1_2] 24 (0, 0)) (by exact BK329.out) hb); have n5_ := Aside0.mk (blk_below (g := gb330) (o := .cells #[.int .i64 a2_0, .int .i64 a2_1, .slice A2_2 l2_2.length c2_2] 24 (0, 0)) (by exact BK330.out) hb); have n6_ := Aside0.mk (below_step HB.out hb); clear HO0_2; clear HO1_2; clear HO2_2; clear BK328; clear BK329; clear BK330; clear HB; have HO0_2 := n0_; have HO1_2 := n1_; have HO2_2 := n2_; have BK328 := n3_; have BK329 := n4_; have BK330 := n5_; have HB := n6_; clear n0_ n1_ n2_ n3_ n4_ n5_ n6_; (try clear hb); (try clear hb2); (try clear hk); (try clear hi); have hcz75_0 : w74.cell? ⟨gb328, 0, none⟩ = some (.int .i64 a0_0) := (blk_cell BK328.out 0).trans rfl; have hcz75_1 : w74.cell? ⟨gb328, 1, none⟩ = some (.int .i64 a0_1) := (blk_cell BK328.out 1).trans rfl; have hcz75_2 : w74.cell? ⟨gb328, 2, none⟩ = some (.slice A0_2 l0_2.length c0_2) := (blk_cell BK328.out 2).trans rfl; have hfz75_0 := blk_frozen BK328.out 0; have hfz75_1 := blk_frozen BK328.out 1; have hfz75_2 := blk_frozen BK328.out 2) | (go_at_call 17; (with_reducible refine (ident_Cmp.calls k a0_0 a0_1 _ _ l0_2 a0_0 a0_1 _ _ l0_2 t341 _ ?side1 ?side2 ?side3 ?side4 A68.out).mono ?_); (case side1 => exact (Kd.V_reads' HO0_2.out).2.2); (case side2 => exact (Kd.V_reads' HO0_2.out).2.1); (case side3 => exact (Kd.V_reads' HO0_2.out).2.2); (case side4 => exact (Kd.V_reads' HO0_2.out).2.1); rintro e w76 ⟨rfl, hb⟩; have n0_ := Aside0.mk (Kd.V_below (by exact HO0_2.out) hb); have n1_ := Aside0.mk (Kd.V_below (by exact HO1_2.out) hb); have n2_ := Aside0.mk (Kd.V_below (by exact HO2_2.out) hb); have n3_ := Aside0.mk (blk_below (g := gb328) (o := .cells #[.int .i64 a0_0, .int .i64 a0_1, .slice A0_2 l0_2.length c0_2] 24 (0, 0)) (by exact BK328.out) hb); have n4_ := Aside0.mk (blk_below (g := gb329) (o := .cells #[.int .i64 a1_0, .int .i64 a1_1, .slice A1_2 l1_2.length c1_2] 24 (0, 0)) (by exact BK329.out) hb); have n5_ := Aside0.mk (blk_below (g := gb330) (o := .cells #[.int .i64 a2_0, .int .i64 a2_1, .slice A2_2 l2_2.length c2_2] 24 (0, 0)) (by exact BK330.out) hb); have n6_ := Aside0.mk (below_step HB.out hb); clear HO0_2; clear HO1_2; clear HO2_2; clear BK328; clear BK329; clear BK330; clear HB; have HO0_2 := n0_; have HO1_2 := n1_; have HO2_2 := n2_; have BK328 := n3_; have BK329 := n4_; have BK330 := n5_; have HB := n6_; clear n0_ n1_ n2_ n3_ n4_ n5_ n6_; (try clear hb); (try clear hb2); (try clear hk); (try clear hi)))
          go_meet
          case rel => exact ⟨_, ((t341 != 0)), (by first | rfl | (simp; done) | (simp [*]; done) | (simp; exact (by decide : ∀ x y : Bool, (x == y) = (!x != y)) _ _)), H', ⟨by first | omega | exact Nat.le_refl _⟩, ⟨by first | exact HO0_2.out | exact Kd.V_mono HO0_2.out (fun _ hk => ⟨hk.1.1.1.1, ⟨hk.1.1.1.2, ⟨hk.1.1.2, hk.1.2⟩⟩⟩)⟩, ⟨by first | exact HO1_2.out | exact Kd.V_mono HO1_2.out (fun _ hk => ⟨hk.1.1.1.1, ⟨hk.1.1.1.2, ⟨hk.1.1.2, hk.1.2⟩⟩⟩)⟩, ⟨by first | exact HO2_2.out | exact Kd.V_mono HO2_2.out (fun _ hk => ⟨hk.1.1.1.1, ⟨hk.1.1.1.2, ⟨hk.1.1.2, hk.1.2⟩⟩⟩)⟩, ⟨by exact BK328.out⟩, ⟨by exact BK329.out⟩, ⟨by exact BK330.out⟩, ⟨HB.out⟩⟩
       ·rw [if_neg c43] at H
        have c43b0 : decide (t337 ≤ 0) = false := decide_eq_false c43
        clear c43
        by_cases c77 : t336 < 0
        ·rw [if_pos c77] at H
         have c77b0 : decide (t336 < 0) = true := decide_eq_true c77
         clear c77
         replace H := Option.bind_eq_some_iff.mp H
         obtain ⟨t342, A780, H⟩ := H
         replace H : (ententelaw03_IdentOrder.j0 k t336 (t342 != 0) a0_0 a0_1 l0_2 a1_0 a1_1 l1_2) = some r := H
         have A78 := Aside0.mk A780
         clear A780
         have H' := Aside0.mk H
         clear H
         have hnb79 := NB329_328.out
         have hnc79 := NB328_329.out
         have hnb80 := NB329_330.out
         have hnc80 := NB330_329.out
         have hcz81_0 : w25.cell? ⟨gb329, 0, none⟩ = some (.int .i64 a1_0) := (blk_cell BK329.out 0).trans rfl
         have hcz81_1 : w25.cell? ⟨gb329, 1, none⟩ = some (.int .i64 a1_1) := (blk_cell BK329.out 1).trans rfl
         have hcz81_2 : w25.cell? ⟨gb329, 2, none⟩ = some (.slice A1_2 l1_2.length c1_2) := (blk_cell BK329.out 2).trans rfl
         have hfz81_0 := blk_frozen BK329.out 0
         have hfz81_1 := blk_frozen BK329.out 1
         have hfz81_2 := blk_frozen BK329.out 2
         have hnb82 := NB328_330.out
         have hnc82 := NB330_328.out
         have hcz83_0 : w25.cell? ⟨gb328, 0, none⟩ = some (.int .i64 a0_0) := (blk_cell BK328.out 0).trans rfl
         have hcz83_1 : w25.cell? ⟨gb328, 1, none⟩ = some (.int .i64 a0_1) := (blk_cell BK328.out 1).trans rfl
         have hcz83_2 : w25.cell? ⟨gb328, 2, none⟩ = some (.slice A0_2 l0_2.length c0_2) := (blk_cell BK328.out 2).trans rfl
         have hfz83_0 := blk_frozen BK328.out 0
         have hfz83_1 := blk_frozen BK328.out 1
         have hfz83_2 := blk_frozen BK328.out 2
         go_wp2_with (first | ((with_reducible refine gate_callee (f := 17) rfl ?_); refine goesL_ (some 32) rfl rfl Tryd.func17 (by kernel_rfl) rfl #[.agg #[.int .i64 a1_0, .int .i64 a1_1, .slice A1_2 l1_2.length c1_2], .agg #[.int .i64 a0_0, .int .i64 a0_1, .slice A0_2 l0_2.length c0_2]] rfl (by (try simp only [List.map_toArray, List.map_cons, List.map_nil]); first | done | rfl | (simp only [List.length_drop, List.length_take]; rfl)) ?_; (with_reducible refine (ident_Cmp.calls k a1_0 a1_1 _ _ l1_2 a0_0 a0_1 _ _ l0_2 t339 _ ?side1 ?side2 ?side3 ?side4 A26.out).mono ?_); (case side1 => exact (Kd.V_reads' HO1_2.out).2.2); (case side2 => exact (Kd.V_reads' HO1_2.out).2.1); (case side3 => exact (Kd.V_reads' HO0_2.out).2.2); (case side4 => exact (Kd.V_reads' HO0_2.out).2.1); rintro e w84 ⟨rfl, hb⟩; refine ⟨_, rfl, ?_⟩; have n0_ := Aside0.mk (Kd.V_below (by exact HO0_2.out) hb); have n1_ := Aside0.mk (Kd.V_below (by exact HO1_2.out) hb); have n2_ := Aside0.mk (Kd.V_below (by exact HO2_2.out) hb); have n3_ := Aside0.mk (blk_below (g := gb328) (o := .cells #[.int .i64 a0_0, .int .i64 a0_1, .slice A0_2 l0_2.length c0_2] 24 (0, 0)) (by exact BK328.out) hb); have n4_ := Aside0.mk (blk_below (g := gb329) (o := .cells #[.int .i64 a1_0, .int .i64 a1_1, .slice A1_2 l1_2.length c1_2] 24 (0, 0)) (by exact BK329.out) hb); have n5_ := Aside0.mk (blk_below (g := gb330) (o := .cells #[.int .i64 a2_0, .int .i64 a2_1, .slice A2_2 l2_2.length c2_2] 24 (0, 0)) (by exact BK330.out) hb); have n6_ := Aside0.mk (below_step HB.out hb); clear HO0_2; clear HO1_2; clear HO2_2; clear BK328; clear BK329; clear BK330; clear HB; have HO0_2 := n0_; have HO1_2 := n1_; have HO2_2 := n2_; have BK328 := n3_; have BK329 := n4_; have BK330 := n5_; have HB := n6_; clear n0_ n1_ n2_ n3_ n4_ n5_ n6_; (try clear hb); (try clear hb2); (try clear hk); (try clear hi); have hcz85_0 : w84.cell? ⟨gb328, 0, none⟩ = some (.int .i64 a0_0) := (blk_cell BK328.out 0).trans rfl; have hcz85_1 : w84.cell? ⟨gb328, 1, none⟩ = some (.int .i64 a0_1) := (blk_cell BK328.out 1).trans rfl; have hcz85_2 : w84.cell? ⟨gb328, 2, none⟩ = some (.slice A0_2 l0_2.length c0_2) := (blk_cell BK328.out 2).trans rfl; have hfz85_0 := blk_frozen BK328.out 0; have hfz85_1 := blk_frozen BK328.out 1; have hfz85_2 := blk_frozen BK328.out 2) | (go_at_call 17; (with_reducible refine (ident_Cmp.calls k a0_0 a0_1 _ _ l0_2 a0_0 a0_1 _ _ l0_2 t342 _ ?side1 ?side2 ?side3 ?side4 A78.out).mono ?_); (case side1 => exact (Kd.V_reads' HO0_2.out).2.2); (case side2 => exact (Kd.V_reads' HO0_2.out).2.1); (case side3 => exact (Kd.V_reads' HO0_2.out).2.2); (case side4 => exact (Kd.V_reads' HO0_2.out).2.1); rintro e w86 ⟨rfl, hb⟩; have n0_ := Aside0.mk (Kd.V_below (by exact HO0_2.out) hb); have n1_ := Aside0.mk (Kd.V_below (by exact HO1_2.out) hb); have n2_ := Aside0.mk (Kd.V_below (by exact HO2_2.out) hb); have n3_ := Aside0.mk (blk_below (g := gb328) (o := .cells #[.int .i64 a0_0, .int .i64 a0_1, .slice A0_2 l0_2.length c0_2] 24 (0, 0)) (by exact BK328.out) hb); have n4_ := Aside0.mk (blk_below (g := gb329) (o := .cells #[.int .i64 a1_0, .int .i64 a1_1, .slice A1_2 l1_2.length c1_2] 24 (0, 0)) (by exact BK329.out) hb); have n5_ := Aside0.mk (blk_below (g := gb330) (o := .cells #[.int .i64 a2_0, .int .i64 a2_1, .slice A2_2 l2_2.length c2_2] 24 (0, 0)) (by exact BK330.out) hb); have n6_ := Aside0.mk (below_step HB.out hb); clear HO0_2; clear HO1_2; clear HO2_2; clear BK328; clear BK329; clear BK330; clear HB; have HO0_2 := n0_; have HO1_2 := n1_; have HO2_2 := n2_; have BK328 := n3_; have BK329 := n4_; have BK330 := n5_; have HB := n6_; clear n0_ n1_ n2_ n3_ n4_ n5_ n6_; (try clear hb); (try clear hb2); (try clear hk); (try clear hi)))
         go_meet
         case rel => exact ⟨_, ((t342 != 0)), (by first | rfl | (simp; done) | (simp [*]; done) | (simp; exact (by decide : ∀ x y : Bool, (x == y) = (!x != y)) _ _)), H', ⟨by first | omega | exact Nat.le_refl _⟩, ⟨by first | exact HO0_2.out | exact Kd.V_mono HO0_2.out (fun _ hk => ⟨hk.1.1.1.1, ⟨hk.1.1.1.2, ⟨hk.1.1.2, hk.1.2⟩⟩⟩)⟩, ⟨by first | exact HO1_2.out | exact Kd.V_mono HO1_2.out (fun _ hk => ⟨hk.1.1.1.1, ⟨hk.1.1.1.2, ⟨hk.1.1.2, hk.1.2⟩⟩⟩)⟩, ⟨by first | exact HO2_2.out | exact Kd.V_mono HO2_2.out (fun _ hk => ⟨hk.1.1.1.1, ⟨hk.1.1.1.2, ⟨hk.1.1.2, hk.1.2⟩⟩⟩)⟩, ⟨by exact BK328.out⟩, ⟨by exact BK329.out⟩, ⟨by exact BK330.out⟩, ⟨HB.out⟩⟩
        ·rw [if_neg c77] at H
         have c77b0 : decide (t336 < 0) = false := decide_eq_false c77
         clear c77
         replace H := Option.bind_eq_some_iff.mp H
         obtain ⟨t343, A870, H⟩ := H
         replace H : (ententelaw03_IdentOrder.j0 k t336 (t343 != 0) a0_0 a0_1 l0_2 a1_0 a1_1 l1_2) = some r := H
         have A87 := Aside0.mk A870
         clear A870
         have H' := Aside0.mk H
         clear H
         have hnb88 := NB329_328.out
         have hnc88 := NB328_329.out
         have hnb89 := NB329_330.out
         have hnc89 := NB330_329.out
         have hcz90_0 : w25.cell? ⟨gb329, 0, none⟩ = some (.int .i64 a1_0) := (blk_cell BK329.out 0).trans rfl
         have hcz90_1 : w25.cell? ⟨gb329, 1, none⟩ = some (.int .i64 a1_1) := (blk_cell BK329.out 1).trans rfl
         have hcz90_2 : w25.cell? ⟨gb329, 2, none⟩ = some (.slice A1_2 l1_2.length c1_2) := (blk_cell BK329.out 2).trans rfl
         have hfz90_0 := blk_frozen BK329.out 0
         have hfz90_1 := blk_frozen BK329.out 1
         have hfz90_2 := blk_frozen BK329.out 2
         have hnb91 := NB328_330.out
         have hnc91 := NB330_328.out
         have hcz92_0 : w25.cell? ⟨gb328, 0, none⟩ = some (.int .i64 a0_0) := (blk_cell BK328.out 0).trans rfl
         have hcz92_1 : w25.cell? ⟨gb328, 1, none⟩ = some (.int .i64 a0_1) := (blk_cell BK328.out 1).trans rfl
         have hcz92_2 : w25.cell? ⟨gb328, 2, none⟩ = some (.slice A0_2 l0_2.length c0_2) := (blk_cell BK328.out 2).trans rfl
         have hfz92_0 := blk_frozen BK328.out 0
         have hfz92_1 := blk_frozen BK328.out 1
         have hfz92_2 := blk_frozen BK328.out 2
         go_wp2_with (first | ((with_reducible refine gate_callee (f := 17) rfl ?_); refine goesL_ (some 32) rfl rfl Tryd.func17 (by kernel_rfl) rfl #[.agg #[.int .i64 a1_0, .int .i64 a1_1, .slice A1_2 l1_2.length c1_2], .agg #[.int .i64 a0_0, .int .i64 a0_1, .slice A0_2 l0_2.length c0_2]] rfl (by (try simp only [List.map_toArray, List.map_cons, List.map_nil]); first | done | rfl | (simp only [List.length_drop, List.length_take]; rfl)) ?_; (with_reducible refine (ident_Cmp.calls k a1_0 a1_1 _ _ l1_2 a0_0 a0_1 _ _ l0_2 t339 _ ?side1 ?side2 ?side3 ?side4 A26.out).mono ?_); (case side1 => exact (Kd.V_reads' HO1_2.out).2.2); (case side2 => exact (Kd.V_reads' HO1_2.out).2.1); (case side3 => exact (Kd.V_reads' HO0_2.out).2.2); (case side4 => exact (Kd.V_reads' HO0_2.out).2.1); rintro e w93 ⟨rfl, hb⟩; refine ⟨_, rfl, ?_⟩; have n0_ := Aside0.mk (Kd.V_below (by exact HO0_2.out) hb); have n1_ := Aside0.mk (Kd.V_below (by exact HO1_2.out) hb); have n2_ := Aside0.mk (Kd.V_below (by exact HO2_2.out) hb); have n3_ := Aside0.mk (blk_below (g := gb328) (o := .cells #[.int .i64 a0_0, .int .i64 a0_1, .slice A0_2 l0_2.length c0_2] 24 (0, 0)) (by exact BK328.out) hb); have n4_ := Aside0.mk (blk_below (g := gb329) (o := .cells #[.int .i64 a1_0, .int .i64 a1_1, .slice A1_2 l1_2.length c1_2] 24 (0, 0)) (by exact BK329.out) hb); have n5_ := Aside0.mk (blk_below (g := gb330) (o := .cells #[.int .i64 a2_0, .int .i64 a2_1, .slice A2_2 l2_2.length c2_2] 24 (0, 0)) (by exact BK330.out) hb); have n6_ := Aside0.mk (below_step HB.out hb); clear HO0_2; clear HO1_2; clear HO2_2; clear BK328; clear BK329; clear BK330; clear HB; have HO0_2 := n0_; have HO1_2 := n1_; have HO2_2 := n2_; have BK328 := n3_; have BK329 := n4_; have BK330 := n5_; have HB := n6_; clear n0_ n1_ n2_ n3_ n4_ n5_ n6_; (try clear hb); (try clear hb2); (try clear hk); (try clear hi); have hcz94_0 : w93.cell? ⟨gb328, 0, none⟩ = some (.int .i64 a0_0) := (blk_cell BK328.out 0).trans rfl; have hcz94_1 : w93.cell? ⟨gb328, 1, none⟩ = some (.int .i64 a0_1) := (blk_cell BK328.out 1).trans rfl; have hcz94_2 : w93.cell? ⟨gb328, 2, none⟩ = some (.slice A0_2 l0_2.length c0_2) := (blk_cell BK328.out 2).trans rfl; have hfz94_0 := blk_frozen BK328.out 0; have hfz94_1 := blk_frozen BK328.out 1; have hfz94_2 := blk_frozen BK328.out 2) | (go_at_call 17; (with_reducible refine (ident_Cmp.calls k a0_0 a0_1 _ _ l0_2 a0_0 a0_1 _ _ l0_2 t343 _ ?side1 ?side2 ?side3 ?side4 A87.out).mono ?_); (case side1 => exact (Kd.V_reads' HO0_2.out).2.2); (case side2 => exact (Kd.V_reads' HO0_2.out).2.1); (case side3 => exact (Kd.V_reads' HO0_2.out).2.2); (case side4 => exact (Kd.V_reads' HO0_2.out).2.1); rintro e w95 ⟨rfl, hb⟩; have n0_ := Aside0.mk (Kd.V_below (by exact HO0_2.out) hb); have n1_ := Aside0.mk (Kd.V_below (by exact HO1_2.out) hb); have n2_ := Aside0.mk (Kd.V_below (by exact HO2_2.out) hb); have n3_ := Aside0.mk (blk_below (g := gb328) (o := .cells #[.int .i64 a0_0, .int .i64 a0_1, .slice A0_2 l0_2.length c0_2] 24 (0, 0)) (by exact BK328.out) hb); have n4_ := Aside0.mk (blk_below (g := gb329) (o := .cells #[.int .i64 a1_0, .int .i64 a1_1, .slice A1_2 l1_2.length c1_2] 24 (0, 0)) (by exact BK329.out) hb); have n5_ := Aside0.mk (blk_below (g := gb330) (o := .cells #[.int .i64 a2_0, .int .i64 a2_1, .slice A2_2 l2_2.length c2_2] 24 (0, 0)) (by exact BK330.out) hb); have n6_ := Aside0.mk (below_step HB.out hb); clear HO0_2; clear HO1_2; clear HO2_2; clear BK328; clear BK329; clear BK330; clear HB; have HO0_2 := n0_; have HO1_2 := n1_; have HO2_2 := n2_; have BK328 := n3_; have BK329 := n4_; have BK330 := n5_; have HB := n6_; clear n0_ n1_ n2_ n3_ n4_ n5_ n6_; (try clear hb); (try clear hb2); (try clear hk); (try clear hi)))
         go_meet
         case rel => exact ⟨_, ((t343 != 0)), (by first | rfl | (simp; done) | (simp [*]; done) | (simp; exact (by decide : ∀ x y : Bool, (x == y) = (!x != y)) _ _)), H', ⟨by first | omega | exact Nat.le_refl _⟩, ⟨by first | exact HO0_2.out | exact Kd.V_mono HO0_2.out (fun _ hk => ⟨hk.1.1.1.1, ⟨hk.1.1.1.2, ⟨hk.1.1.2, hk.1.2⟩⟩⟩)⟩, ⟨by first | exact HO1_2.out | exact Kd.V_mono HO1_2.out (fun _ hk => ⟨hk.1.1.1.1, ⟨hk.1.1.1.2, ⟨hk.1.1.2, hk.1.2⟩⟩⟩)⟩, ⟨by first | exact HO2_2.out | exact Kd.V_mono HO2_2.out (fun _ hk => ⟨hk.1.1.1.1, ⟨hk.1.1.1.2, ⟨hk.1.1.2, hk.1.2⟩⟩⟩)⟩, ⟨by exact BK328.out⟩, ⟨by exact BK329.out⟩, ⟨by exact BK330.out⟩, ⟨HB.out⟩⟩
      ·rw [if_neg c42] at H
       have c42b0 : decide (t336 ≤ 0) = false := decide_eq_false c42
       clear c42
       by_cases c96 : t336 < 0
       ·rw [if_pos c96] at H
        have c96b0 : decide (t336 < 0) = true := decide_eq_true c96
        clear c96
        by_cases c97 : t337 ≤ 0
        ·rw [if_pos c97] at H
         have c97b0 : decide (t337 ≤ 0) = true := decide_eq_true c97
         clear c97
         by_cases c98 : t338 ≥ 0
         ·rw [if_pos c98] at H
          have c98b0 : decide (0 ≤ t338) = true := decide_eq_true c98
          clear c98
          have H' := Aside0.mk H
          clear H
          have hnb99 := NB329_328.out
          have hnc99 := NB328_329.out
          have hnb100 := NB329_330.out
          have hnc100 := NB330_329.out
          have hcz101_0 : w25.cell? ⟨gb329, 0, none⟩ = some (.int .i64 a1_0) := (blk_cell BK329.out 0).trans rfl
          have hcz101_1 : w25.cell? ⟨gb329, 1, none⟩ = some (.int .i64 a1_1) := (blk_cell BK329.out 1).trans rfl
          have hcz101_2 : w25.cell? ⟨gb329, 2, none⟩ = some (.slice A1_2 l1_2.length c1_2) := (blk_cell BK329.out 2).trans rfl
          have hfz101_0 := blk_frozen BK329.out 0
          have hfz101_1 := blk_frozen BK329.out 1
          have hfz101_2 := blk_frozen BK329.out 2
          have hnb102 := NB328_330.out
          have hnc102 := NB330_328.out
          have hcz103_0 : w25.cell? ⟨gb328, 0, none⟩ = some (.int .i64 a0_0) := (blk_cell BK328.out 0).trans rfl
          have hcz103_1 : w25.cell? ⟨gb328, 1, none⟩ = some (.int .i64 a0_1) := (blk_cell BK328.out 1).trans rfl
          have hcz103_2 : w25.cell? ⟨gb328, 2, none⟩ = some (.slice A0_2 l0_2.length c0_2) := (blk_cell BK328.out 2).trans rfl
          have hfz103_0 := blk_frozen BK328.out 0
          have hfz103_1 := blk_frozen BK328.out 1
          have hfz103_2 := blk_frozen BK328.out 2
          go_wp2_with (first | ((with_reducible refine gate_callee (f := 17) rfl ?_); refine goesL_ (some 32) rfl rfl Tryd.func17 (by kernel_rfl) rfl #[.agg #[.int .i64 a1_0, .int .i64 a1_1, .slice A1_2 l1_2.length c1_2], .agg #[.int .i64 a0_0, .int .i64 a0_1, .slice A0_2 l0_2.length c0_2]] rfl (by (try simp only [List.map_toArray, List.map_cons, List.map_nil]); first | done | rfl | (simp only [List.length_drop, List.length_take]; rfl)) ?_; (with_reducible refine (ident_Cmp.calls k a1_0 a1_1 _ _ l1_2 a0_0 a0_1 _ _ l0_2 t339 _ ?side1 ?side2 ?side3 ?side4 A26.out).mono ?_); (case side1 => exact (Kd.V_reads' HO1_2.out).2.2); (case side2 => exact (Kd.V_reads' HO1_2.out).2.1); (case side3 => exact (Kd.V_reads' HO0_2.out).2.2); (case side4 => exact (Kd.V_reads' HO0_2.out).2.1); rintro e w104 ⟨rfl, hb⟩; refine ⟨_, rfl, ?_⟩; have n0_ := Aside0.mk (Kd.V_below (by exact HO0_2.out) hb); have n1_ := Aside0.mk (Kd.V_below (by exact HO1_2.out) hb); have n2_ := Aside0.mk (Kd.V_below (by exact HO2_2.out) hb); have n3_ := Aside0.mk (blk_below (g := gb328) (o := .cells #[.int .i64 a0_0, .int .i64 a0_1, .slice A0_2 l0_2.length c0_2] 24 (0, 0)) (by exact BK328.out) hb); have n4_ := Aside0.mk (blk_below (g := gb329) (o := .cells #[.int .i64 a1_0, .int .i64 a1_1, .slice A1_2 l1_2.length c1_2] 24 (0, 0)) (by exact BK329.out) hb); have n5_ := Aside0.mk (blk_below (g := gb330) (o := .cells #[.int .i64 a2_0, .int .i64 a2_1, .slice A2_2 l2_2.length c2_2] 24 (0, 0)) (by exact BK330.out) hb); have n6_ := Aside0.mk (below_step HB.out hb); clear HO0_2; clear HO1_2; clear HO2_2; clear BK328; clear BK329; clear BK330; clear HB; have HO0_2 := n0_; have HO1_2 := n1_; have HO2_2 := n2_; have BK328 := n3_; have BK329 := n4_; have BK330 := n5_; have HB := n6_; clear n0_ n1_ n2_ n3_ n4_ n5_ n6_; (try clear hb); (try clear hb2); (try clear hk); (try clear hi)))
          go_meet
          case rel => exact ⟨_, (true), (by first | rfl | (simp; done) | (simp [*]; done) | (simp; exact (by decide : ∀ x y : Bool, (x == y) = (!x != y)) _ _)), H', ⟨by first | omega | exact Nat.le_refl _⟩, ⟨by first | exact HO0_2.out | exact Kd.V_mono HO0_2.out (fun _ hk => ⟨hk.1.1.1.1, ⟨hk.1.1.1.2, ⟨hk.1.1.2, hk.1.2⟩⟩⟩)⟩, ⟨by first | exact HO1_2.out | exact Kd.V_mono HO1_2.out (fun _ hk => ⟨hk.1.1.1.1, ⟨hk.1.1.1.2, ⟨hk.1.1.2, hk.1.2⟩⟩⟩)⟩, ⟨by first | exact HO2_2.out | exact Kd.V_mono HO2_2.out (fun _ hk => ⟨hk.1.1.1.1, ⟨hk.1.1.1.2, ⟨hk.1.1.2, hk.1.2⟩⟩⟩)⟩, ⟨by exact BK328.out⟩, ⟨by exact BK329.out⟩, ⟨by exact BK330.out⟩, ⟨HB.out⟩⟩
         ·rw [if_neg c98] at H
          have c98b0 : decide (0 ≤ t338) = false := decide_eq_false c98
          clear c98
          replace H := Option.bind_eq_some_iff.mp H
          obtain ⟨t344, A1050, H⟩ := H
          replace H : (ententelaw03_IdentOrder.j0 k t336 (t344 != 0) a0_0 a0_1 l0_2 a1_0 a1_1 l1_2) = some r := H
          have A105 := Aside0.mk A1050
          clear A1050
          have H' := Aside0.mk H
          clear H
          have hnb106 := NB329_328.out
          have hnc106 := NB328_329.out
          have hnb107 := NB329_330.out
          have hnc107 := NB330_329.out
          have hcz108_0 : w25.cell? ⟨gb329, 0, none⟩ = some (.int .i64 a1_0) := (blk_cell BK329.out 0).trans rfl
          have hcz108_1 : w25.cell? ⟨gb329, 1, none⟩ = some (.int .i64 a1_1) := (blk_cell BK329.out 1).trans rfl
          have hcz108_2 : w25.cell? ⟨gb329, 2, none⟩ = some (.slice A1_2 l1_2.length c1_2) := (blk_cell BK329.out 2).trans rfl
          have hfz108_0 := blk_frozen BK329.out 0
          have hfz108_1 := blk_frozen BK329.out 1
          have hfz108_2 := blk_frozen BK329.out 2
          have hnb109 := NB328_330.out
          have hnc109 := NB330_328.out
          have hcz110_0 : w25.cell? ⟨gb328, 0, none⟩ = some (.int .i64 a0_0) := (blk_cell BK328.out 0).trans rfl
          have hcz110_1 : w25.cell? ⟨gb328, 1, none⟩ = some (.int .i64 a0_1) := (blk_cell BK328.out 1).trans rfl
          have hcz110_2 : w25.cell? ⟨gb328, 2, none⟩ = some (.slice A0_2 l0_2.length c0_2) := (blk_cell BK328.out 2).trans rfl
          have hfz110_0 := blk_frozen BK328.out 0
          have hfz110_1 := blk_frozen BK328.out 1
          have hfz110_2 := blk_frozen BK328.out 2
          go_wp2_with (first | ((with_reducible refine gate_callee (f := 17) rfl ?_); refine goesL_ (some 32) rfl rfl Tryd.func17 (by kernel_rfl) rfl #[.agg #[.int .i64 a1_0, .int .i64 a1_1, .slice A1_2 l1_2.length c1_2], .agg #[.int .i64 a0_0, .int .i64 a0_1, .slice A0_2 l0_2.length c0_2]] rfl (by (try simp only [List.map_toArray, List.map_cons, List.map_nil]); first | done | rfl | (simp only [List.length_drop, List.length_take]; rfl)) ?_; (with_reducible refine (ident_Cmp.calls k a1_0 a1_1 _ _ l1_2 a0_0 a0_1 _ _ l0_2 t339 _ ?side1 ?side2 ?side3 ?side4 A26.out).mono ?_); (case side1 => exact (Kd.V_reads' HO1_2.out).2.2); (case side2 => exact (Kd.V_reads' HO1_2.out).2.1); (case side3 => exact (Kd.V_reads' HO0_2.out).2.2); (case side4 => exact (Kd.V_reads' HO0_2.out).2.1); rintro e w111 ⟨rfl, hb⟩; refine ⟨_, rfl, ?_⟩; have n0_ := Aside0.mk (Kd.V_below (by exact HO0_2.out) hb); have n1_ := Aside0.mk (Kd.V_below (by exact HO1_2.out) hb); have n2_ := Aside0.mk (Kd.V_below (by exact HO2_2.out) hb); have n3_ := Aside0.mk (blk_below (g := gb328) (o := .cells #[.int .i64 a0_0, .int .i64 a0_1, .slice A0_2 l0_2.length c0_2] 24 (0, 0)) (by exact BK328.out) hb); have n4_ := Aside0.mk (blk_below (g := gb329) (o := .cells #[.int .i64 a1_0, .int .i64 a1_1, .slice A1_2 l1_2.length c1_2] 24 (0, 0)) (by exact BK329.out) hb); have n5_ := Aside0.mk (blk_below (g := gb330) (o := .cells #[.int .i64 a2_0, .int .i64 a2_1, .slice A2_2 l2_2.length c2_2] 24 (0, 0)) (by exact BK330.out) hb); have n6_ := Aside0.mk (below_step HB.out hb); clear HO0_2; clear HO1_2; clear HO2_2; clear BK328; clear BK329; clear BK330; clear HB; have HO0_2 := n0_; have HO1_2 := n1_; have HO2_2 := n2_; have BK328 := n3_; have BK329 := n4_; have BK330 := n5_; have HB := n6_; clear n0_ n1_ n2_ n3_ n4_ n5_ n6_; (try clear hb); (try clear hb2); (try clear hk); (try clear hi); have hcz112_0 : w111.cell? ⟨gb328, 0, none⟩ = some (.int .i64 a0_0) := (blk_cell BK328.out 0).trans rfl; have hcz112_1 : w111.cell? ⟨gb328, 1, none⟩ = some (.int .i64 a0_1) := (blk_cell BK328.out 1).trans rfl; have hcz112_2 : w111.cell? ⟨gb328, 2, none⟩ = some (.slice A0_2 l0_2.length c0_2) := (blk_cell BK328.out 2).trans rfl; have hfz112_0 := blk_frozen BK328.out 0; have hfz112_1 := blk_frozen BK328.out 1; have hfz112_2 := blk_frozen BK328.out 2) | (go_at_call 17; (with_reducible refine (ident_Cmp.calls k a0_0 a0_1 _ _ l0_2 a0_0 a0_1 _ _ l0_2 t344 _ ?side1 ?side2 ?side3 ?side4 A105.out).mono ?_); (case side1 => exact (Kd.V_reads' HO0_2.out).2.2); (case side2 => exact (Kd.V_reads' HO0_2.out).2.1); (case side3 => exact (Kd.V_reads' HO0_2.out).2.2); (case side4 => exact (Kd.V_reads' HO0_2.out).2.1); rintro e w113 ⟨rfl, hb⟩; have n0_ := Aside0.mk (Kd.V_below (by exact HO0_2.out) hb); have n1_ := Aside0.mk (Kd.V_below (by exact HO1_2.out) hb); have n2_ := Aside0.mk (Kd.V_below (by exact HO2_2.out) hb); have n3_ := Aside0.mk (blk_below (g := gb328) (o := .cells #[.int .i64 a0_0, .int .i64 a0_1, .slice A0_2 l0_2.length c0_2] 24 (0, 0)) (by exact BK328.out) hb); have n4_ := Aside0.mk (blk_below (g := gb329) (o := .cells #[.int .i64 a1_0, .int .i64 a1_1, .slice A1_2 l1_2.length c1_2] 24 (0, 0)) (by exact BK329.out) hb); have n5_ := Aside0.mk (blk_below (g := gb330) (o := .cells #[.int .i64 a2_0, .int .i64 a2_1, .slice A2_2 l2_2.length c2_2] 24 (0, 0)) (by exact BK330.out) hb); have n6_ := Aside0.mk (below_step HB.out hb); clear HO0_2; clear HO1_2; clear HO2_2; clear BK328; clear BK329; clear BK330; clear HB; have HO0_2 := n0_; have HO1_2 := n1_; have HO2_2 := n2_; have BK328 := n3_; have BK329 := n4_; have BK330 := n5_; have HB := n6_; clear n0_ n1_ n2_ n3_ n4_ n5_ n6_; (try clear hb); (try clear hb2); (try clear hk); (try clear hi)))
          go_meet
          case rel => exact ⟨_, ((t344 != 0)), (by first | rfl | (simp; done) | (simp [*]; done) | (simp; exact (by decide : ∀ x y : Bool, (x == y) = (!x != y)) _ _)), H', ⟨by first | omega | exact Nat.le_refl _⟩, ⟨by first | exact HO0_2.out | exact Kd.V_mono HO0_2.out (fun _ hk => ⟨hk.1.1.1.1, ⟨hk.1.1.1.2, ⟨hk.1.1.2, hk.1.2⟩⟩⟩)⟩, ⟨by first | exact HO1_2.out | exact Kd.V_mono HO1_2.out (fun _ hk => ⟨hk.1.1.1.1, ⟨hk.1.1.1.2, ⟨hk.1.1.2, hk.1.2⟩⟩⟩)⟩, ⟨by first | exact HO2_2.out | exact Kd.V_mono HO2_2.out (fun _ hk => ⟨hk.1.1.1.1, ⟨hk.1.1.1.2, ⟨hk.1.1.2, hk.1.2⟩⟩⟩)⟩, ⟨by exact BK328.out⟩, ⟨by exact BK329.out⟩, ⟨by exact BK330.out⟩, ⟨HB.out⟩⟩
        ·rw [if_neg c97] at H
         have c97b0 : decide (t337 ≤ 0) = false := decide_eq_false c97
         clear c97
         replace H := Option.bind_eq_some_iff.mp H
         obtain ⟨t345, A1140, H⟩ := H
         replace H : (ententelaw03_IdentOrder.j0 k t336 (t345 != 0) a0_0 a0_1 l0_2 a1_0 a1_1 l1_2) = some r := H
         have A114 := Aside0.mk A1140
         clear A1140
         have H' := Aside0.mk H
         clear H
         have hnb115 := NB329_328.out
         have hnc115 := NB328_329.out
         have hnb116 := NB329_330.out
         have hnc116 := NB330_329.out
         have hcz117_0 : w25.cell? ⟨gb329, 0, none⟩ = some (.int .i64 a1_0) := (blk_cell BK329.out 0).trans rfl
         have hcz117_1 : w25.cell? ⟨gb329, 1, none⟩ = some (.int .i64 a1_1) := (blk_cell BK329.out 1).trans rfl
         have hcz117_2 : w25.cell? ⟨gb329, 2, none⟩ = some (.slice A1_2 l1_2.length c1_2) := (blk_cell BK329.out 2).trans rfl
         have hfz117_0 := blk_frozen BK329.out 0
         have hfz117_1 := blk_frozen BK329.out 1
         have hfz117_2 := blk_frozen BK329.out 2
         have hnb118 := NB328_330.out
         have hnc118 := NB330_328.out
         have hcz119_0 : w25.cell? ⟨gb328, 0, none⟩ = some (.int .i64 a0_0) := (blk_cell BK328.out 0).trans rfl
         have hcz119_1 : w25.cell? ⟨gb328, 1, none⟩ = some (.int .i64 a0_1) := (blk_cell BK328.out 1).trans rfl
         have hcz119_2 : w25.cell? ⟨gb328, 2, none⟩ = some (.slice A0_2 l0_2.length c0_2) := (blk_cell BK328.out 2).trans rfl
         have hfz119_0 := blk_frozen BK328.out 0
         have hfz119_1 := blk_frozen BK328.out 1
         have hfz119_2 := blk_frozen BK328.out 2
         go_wp2_with (first | ((with_reducible refine gate_callee (f := 17) rfl ?_); refine goesL_ (some 32) rfl rfl Tryd.func17 (by kernel_rfl) rfl #[.agg #[.int .i64 a1_0, .int .i64 a1_1, .slice A1_2 l1_2.length c1_2], .agg #[.int .i64 a0_0, .int .i64 a0_1, .slice A0_2 l0_2.length c0_2]] rfl (by (try simp only [List.map_toArray, List.map_cons, List.map_nil]); first | done | rfl | (simp only [List.length_drop, List.length_take]; rfl)) ?_; (with_reducible refine (ident_Cmp.calls k a1_0 a1_1 _ _ l1_2 a0_0 a0_1 _ _ l0_2 t339 _ ?side1 ?side2 ?side3 ?side4 A26.out).mono ?_); (case side1 => exact (Kd.V_reads' HO1_2.out).2.2); (case side2 => exact (Kd.V_reads' HO1_2.out).2.1); (case side3 => exact (Kd.V_reads' HO0_2.out).2.2); (case side4 => exact (Kd.V_reads' HO0_2.out).2.1); rintro e w120 ⟨rfl, hb⟩; refine ⟨_, rfl, ?_⟩; have n0_ := Aside0.mk (Kd.V_below (by exact HO0_2.out) hb); have n1_ := Aside0.mk (Kd.V_below (by exact HO1_2.out) hb); have n2_ := Aside0.mk (Kd.V_below (by exact HO2_2.out) hb); have n3_ := Aside0.mk (blk_below (g := gb328) (o := .cells #[.int .i64 a0_0, .int .i64 a0_1, .slice A0_2 l0_2.length c0_2] 24 (0, 0)) (by exact BK328.out) hb); have n4_ := Aside0.mk (blk_below (g := gb329) (o := .cells #[.int .i64 a1_0, .int .i64 a1_1, .slice A1_2 l1_2.length c1_2] 24 (0, 0)) (by exact BK329.out) hb); have n5_ := Aside0.mk (blk_below (g := gb330) (o := .cells #[.int .i64 a2_0, .int .i64 a2_1, .slice A2_2 l2_2.length c2_2] 24 (0, 0)) (by exact BK330.out) hb); have n6_ := Aside0.mk (below_step HB.out hb); clear HO0_2; clear HO1_2; clear HO2_2; clear BK328; clear BK329; clear BK330; clear HB; have HO0_2 := n0_; have HO1_2 := n1_; have HO2_2 := n2_; have BK328 := n3_; have BK329 := n4_; have BK330 := n5_; have HB := n6_; clear n0_ n1_ n2_ n3_ n4_ n5_ n6_; (try clear hb); (try clear hb2); (try clear hk); (try clear hi); have hcz121_0 : w120.cell? ⟨gb328, 0, none⟩ = some (.int .i64 a0_0) := (blk_cell BK328.out 0).trans rfl; have hcz121_1 : w120.cell? ⟨gb328, 1, none⟩ = some (.int .i64 a0_1) := (blk_cell BK328.out 1).trans rfl; have hcz121_2 : w120.cell? ⟨gb328, 2, none⟩ = some (.slice A0_2 l0_2.length c0_2) := (blk_cell BK328.out 2).trans rfl; have hfz121_0 := blk_frozen BK328.out 0; have hfz121_1 := blk_frozen BK328.out 1; have hfz121_2 := blk_frozen BK328.out 2) | (go_at_call 17; (with_reducible refine (ident_Cmp.calls k a0_0 a0_1 _ _ l0_2 a0_0 a0_1 _ _ l0_2 t345 _ ?side1 ?side2 ?side3 ?side4 A114.out).mono ?_); (case side1 => exact (Kd.V_reads' HO0_2.out).2.2); (case side2 => exact (Kd.V_reads' HO0_2.out).2.1); (case side3 => exact (Kd.V_reads' HO0_2.out).2.2); (case side4 => exact (Kd.V_reads' HO0_2.out).2.1); rintro e w122 ⟨rfl, hb⟩; have n0_ := Aside0.mk (Kd.V_below (by exact HO0_2.out) hb); have n1_ := Aside0.mk (Kd.V_below (by exact HO1_2.out) hb); have n2_ := Aside0.mk (Kd.V_below (by exact HO2_2.out) hb); have n3_ := Aside0.mk (blk_below (g := gb328) (o := .cells #[.int .i64 a0_0, .int .i64 a0_1, .slice A0_2 l0_2.length c0_2] 24 (0, 0)) (by exact BK328.out) hb); have n4_ := Aside0.mk (blk_below (g := gb329) (o := .cells #[.int .i64 a1_0, .int .i64 a1_1, .slice A1_2 l1_2.length c1_2] 24 (0, 0)) (by exact BK329.out) hb); have n5_ := Aside0.mk (blk_below (g := gb330) (o := .cells #[.int .i64 a2_0, .int .i64 a2_1, .slice A2_2 l2_2.length c2_2] 24 (0, 0)) (by exact BK330.out) hb); have n6_ := Aside0.mk (below_step HB.out hb); clear HO0_2; clear HO1_2; clear HO2_2; clear BK328; clear BK329; clear BK330; clear HB; have HO0_2 := n0_; have HO1_2 := n1_; have HO2_2 := n2_; have BK328 := n3_; have BK329 := n4_; have BK330 := n5_; have HB := n6_; clear n0_ n1_ n2_ n3_ n4_ n5_ n6_; (try clear hb); (try clear hb2); (try clear hk); (try clear hi)))
         go_meet
         case rel => exact ⟨_, ((t345 != 0)), (by first | rfl | (simp; done) | (simp [*]; done) | (simp; exact (by decide : ∀ x y : Bool, (x == y) = (!x != y)) _ _)), H', ⟨by first | omega | exact Nat.le_refl _⟩, ⟨by first | exact HO0_2.out | exact Kd.V_mono HO0_2.out (fun _ hk => ⟨hk.1.1.1.1, ⟨hk.1.1.1.2, ⟨hk.1.1.2, hk.1.2⟩⟩⟩)⟩, ⟨by first | exact HO1_2.out | exact Kd.V_mono HO1_2.out (fun _ hk => ⟨hk.1.1.1.1, ⟨hk.1.1.1.2, ⟨hk.1.1.2, hk.1.2⟩⟩⟩)⟩, ⟨by first | exact HO2_2.out | exact Kd.V_mono HO2_2.out (fun _ hk => ⟨hk.1.1.1.1, ⟨hk.1.1.1.2, ⟨hk.1.1.2, hk.1.2⟩⟩⟩)⟩, ⟨by exact BK328.out⟩, ⟨by exact BK329.out⟩, ⟨by exact BK330.out⟩, ⟨HB.out⟩⟩
       ·rw [if_neg c96] at H
        have c96b0 : decide (t336 < 0) = false := decide_eq_false c96
        clear c96
        replace H := Option.bind_eq_some_iff.mp H
        obtain ⟨t346, A1230, H⟩ := H
        replace H : (ententelaw03_IdentOrder.j0 k t336 (t346 != 0) a0_0 a0_1 l0_2 a1_0 a1_1 l1_2) = some r := H
        have A123 := Aside0.mk A1230
        clear A1230
        have H' := Aside0.mk H
        clear H
        have hnb124 := NB329_328.out
        have hnc124 := NB328_329.out
        have hnb125 := NB329_330.out
        have hnc125 := NB330_329.out
        have hcz126_0 : w25.cell? ⟨gb329, 0, none⟩ = some (.int .i64 a1_0) := (blk_cell BK329.out 0).trans rfl
        have hcz126_1 : w25.cell? ⟨gb329, 1, none⟩ = some (.int .i64 a1_1) := (blk_cell BK329.out 1).trans rfl
        have hcz126_2 : w25.cell? ⟨gb329, 2, none⟩ = some (.slice A1_2 l1_2.length c1_2) := (blk_cell BK329.out 2).trans rfl
        have hfz126_0 := blk_frozen BK329.out 0
        have hfz126_1 := blk_frozen BK329.out 1
        have hfz126_2 := blk_frozen BK329.out 2
        have hnb127 := NB328_330.out
        have hnc127 := NB330_328.out
        have hcz128_0 : w25.cell? ⟨gb328, 0, none⟩ = some (.int .i64 a0_0) := (blk_cell BK328.out 0).trans rfl
        have hcz128_1 : w25.cell? ⟨gb328, 1, none⟩ = some (.int .i64 a0_1) := (blk_cell BK328.out 1).trans rfl
        have hcz128_2 : w25.cell? ⟨gb328, 2, none⟩ = some (.slice A0_2 l0_2.length c0_2) := (blk_cell BK328.out 2).trans rfl
        have hfz128_0 := blk_frozen BK328.out 0
        have hfz128_1 := blk_frozen BK328.out 1
        have hfz128_2 := blk_frozen BK328.out 2
        go_wp2_with (first | ((with_reducible refine gate_callee (f := 17) rfl ?_); refine goesL_ (some 32) rfl rfl Tryd.func17 (by kernel_rfl) rfl #[.agg #[.int .i64 a1_0, .int .i64 a1_1, .slice A1_2 l1_2.length c1_2], .agg #[.int .i64 a0_0, .int .i64 a0_1, .slice A0_2 l0_2.length c0_2]] rfl (by (try simp only [List.map_toArray, List.map_cons, List.map_nil]); first | done | rfl | (simp only [List.length_drop, List.length_take]; rfl)) ?_; (with_reducible refine (ident_Cmp.calls k a1_0 a1_1 _ _ l1_2 a0_0 a0_1 _ _ l0_2 t339 _ ?side1 ?side2 ?side3 ?side4 A26.out).mono ?_); (case side1 => exact (Kd.V_reads' HO1_2.out).2.2); (case side2 => exact (Kd.V_reads' HO1_2.out).2.1); (case side3 => exact (Kd.V_reads' HO0_2.out).2.2); (case side4 => exact (Kd.V_reads' HO0_2.out).2.1); rintro e w129 ⟨rfl, hb⟩; refine ⟨_, rfl, ?_⟩; have n0_ := Aside0.mk (Kd.V_below (by exact HO0_2.out) hb); have n1_ := Aside0.mk (Kd.V_below (by exact HO1_2.out) hb); have n2_ := Aside0.mk (Kd.V_below (by exact HO2_2.out) hb); have n3_ := Aside0.mk (blk_below (g := gb328) (o := .cells #[.int .i64 a0_0, .int .i64 a0_1, .slice A0_2 l0_2.length c0_2] 24 (0, 0)) (by exact BK328.out) hb); have n4_ := Aside0.mk (blk_below (g := gb329) (o := .cells #[.int .i64 a1_0, .int .i64 a1_1, .slice A1_2 l1_2.length c1_2] 24 (0, 0)) (by exact BK329.out) hb); have n5_ := Aside0.mk (blk_below (g := gb330) (o := .cells #[.int .i64 a2_0, .int .i64 a2_1, .slice A2_2 l2_2.length c2_2] 24 (0, 0)) (by exact BK330.out) hb); have n6_ := Aside0.mk (below_step HB.out hb); clear HO0_2; clear HO1_2; clear HO2_2; clear BK328; clear BK329; clear BK330; clear HB; have HO0_2 := n0_; have HO1_2 := n1_; have HO2_2 := n2_; have BK328 := n3_; have BK329 := n4_; have BK330 := n5_; have HB := n6_; clear n0_ n1_ n2_ n3_ n4_ n5_ n6_; (try clear hb); (try clear hb2); (try clear hk); (try clear hi); have hcz130_0 : w129.cell? ⟨gb328, 0, none⟩ = some (.int .i64 a0_0) := (blk_cell BK328.out 0).trans rfl; have hcz130_1 : w129.cell? ⟨gb328, 1, none⟩ = some (.int .i64 a0_1) := (blk_cell BK328.out 1).trans rfl; have hcz130_2 : w129.cell? ⟨gb328, 2, none⟩ = some (.slice A0_2 l0_2.length c0_2) := (blk_cell BK328.out 2).trans rfl; have hfz130_0 := blk_frozen BK328.out 0; have hfz130_1 := blk_frozen BK328.out 1; have hfz130_2 := blk_frozen BK328.out 2) | (go_at_call 17; (with_reducible refine (ident_Cmp.calls k a0_0 a0_1 _ _ l0_2 a0_0 a0_1 _ _ l0_2 t346 _ ?side1 ?side2 ?side3 ?side4 A123.out).mono ?_); (case side1 => exact (Kd.V_reads' HO0_2.out).2.2); (case side2 => exact (Kd.V_reads' HO0_2.out).2.1); (case side3 => exact (Kd.V_reads' HO0_2.out).2.2); (case side4 => exact (Kd.V_reads' HO0_2.out).2.1); rintro e w131 ⟨rfl, hb⟩; have n0_ := Aside0.mk (Kd.V_below (by exact HO0_2.out) hb); have n1_ := Aside0.mk (Kd.V_below (by exact HO1_2.out) hb); have n2_ := Aside0.mk (Kd.V_below (by exact HO2_2.out) hb); have n3_ := Aside0.mk (blk_below (g := gb328) (o := .cells #[.int .i64 a0_0, .int .i64 a0_1, .slice A0_2 l0_2.length c0_2] 24 (0, 0)) (by exact BK328.out) hb); have n4_ := Aside0.mk (blk_below (g := gb329) (o := .cells #[.int .i64 a1_0, .int .i64 a1_1, .slice A1_2 l1_2.length c1_2] 24 (0, 0)) (by exact BK329.out) hb); have n5_ := Aside0.mk (blk_below (g := gb330) (o := .cells #[.int .i64 a2_0, .int .i64 a2_1, .slice A2_2 l2_2.length c2_2] 24 (0, 0)) (by exact BK330.out) hb); have n6_ := Aside0.mk (below_step HB.out hb); clear HO0_2; clear HO1_2; clear HO2_2; clear BK328; clear BK329; clear BK330; clear HB; have HO0_2 := n0_; have HO1_2 := n1_; have HO2_2 := n2_; have BK328 := n3_; have BK329 := n4_; have BK330 := n5_; have HB := n6_; clear n0_ n1_ n2_ n3_ n4_ n5_ n6_; (try clear hb); (try clear hb2); (try clear hk); (try clear hi)))
        go_meet
        case rel => exact ⟨_, ((t346 != 0)), (by first | rfl | (simp; done) | (simp [*]; done) | (simp; exact (by decide : ∀ x y : Bool, (x == y) = (!x != y)) _ _)), H', ⟨by first | omega | exact Nat.le_refl _⟩, ⟨by first | exact HO0_2.out | exact Kd.V_mono HO0_2.out (fun _ hk => ⟨hk.1.1.1.1, ⟨hk.1.1.1.2, ⟨hk.1.1.2, hk.1.2⟩⟩⟩)⟩, ⟨by first | exact HO1_2.out | exact Kd.V_mono HO1_2.out (fun _ hk => ⟨hk.1.1.1.1, ⟨hk.1.1.1.2, ⟨hk.1.1.2, hk.1.2⟩⟩⟩)⟩, ⟨by first | exact HO2_2.out | exact Kd.V_mono HO2_2.out (fun _ hk => ⟨hk.1.1.1.1, ⟨hk.1.1.1.2, ⟨hk.1.1.2, hk.1.2⟩⟩⟩)⟩, ⟨by exact BK328.out⟩, ⟨by exact BK329.out⟩, ⟨by exact BK330.out⟩, ⟨HB.out⟩⟩
   ·rw [if_neg c27] at H
    have c27b0 : (t336 == (wrap64 (-t339))) = false := beq_eq_false_iff_ne.mpr c27
    have c27b1 : (t336 != (wrap64 (-t339))) = true := bne_iff_ne.mpr c27
    (first | rw [c27b0] | (simp only [i64_w, i32_w]; rw [c27b0]) | skip)
    have H' := Aside0.mk H
    clear H
    have hnb132 := NB329_328.out
    have hnc132 := NB328_329.out
    have hnb133 := NB329_330.out
    have hnc133 := NB330_329.out
    have hcz134_0 : w25.cell? ⟨gb329, 0, none⟩ = some (.int .i64 a1_0) := (blk_cell BK329.out 0).trans rfl
    have hcz134_1 : w25.cell? ⟨gb329, 1, none⟩ = some (.int .i64 a1_1) := (blk_cell BK329.out 1).trans rfl
    have hcz134_2 : w25.cell? ⟨gb329, 2, none⟩ = some (.slice A1_2 l1_2.length c1_2) := (blk_cell BK329.out 2).trans rfl
    have hfz134_0 := blk_frozen BK329.out 0
    have hfz134_1 := blk_frozen BK329.out 1
    have hfz134_2 := blk_frozen BK329.out 2
    have hnb135 := NB328_330.out
    have hnc135 := NB330_328.out
    have hcz136_0 : w25.cell? ⟨gb328, 0, none⟩ = some (.int .i64 a0_0) := (blk_cell BK328.out 0).trans rfl
    have hcz136_1 : w25.cell? ⟨gb328, 1, none⟩ = some (.int .i64 a0_1) := (blk_cell BK328.out 1).trans rfl
    have hcz136_2 : w25.cell? ⟨gb328, 2, none⟩ = some (.slice A0_2 l0_2.length c0_2) := (blk_cell BK328.out 2).trans rfl
    have hfz136_0 := blk_frozen BK328.out 0
    have hfz136_1 := blk_frozen BK328.out 1
    have hfz136_2 := blk_frozen BK328.out 2
    go_wp2_with (first | ((with_reducible refine gate_callee (f := 17) rfl ?_); refine goesL_ (some 32) rfl rfl Tryd.func17 (by kernel_rfl) rfl #[.agg #[.int .i64 a1_0, .int .i64 a1_1, .slice A1_2 l1_2.length c1_2], .agg #[.int .i64 a0_0, .int .i64 a0_1, .slice A0_2 l0_2.length c0_2]] rfl (by (try simp only [List.map_toArray, List.map_cons, List.map_nil]); first | done | rfl | (simp only [List.length_drop, List.length_take]; rfl)) ?_; (with_reducible refine (ident_Cmp.calls k a1_0 a1_1 _ _ l1_2 a0_0 a0_1 _ _ l0_2 t339 _ ?side1 ?side2 ?side3 ?side4 A26.out).mono ?_); (case side1 => exact (Kd.V_reads' HO1_2.out).2.2); (case side2 => exact (Kd.V_reads' HO1_2.out).2.1); (case side3 => exact (Kd.V_reads' HO0_2.out).2.2); (case side4 => exact (Kd.V_reads' HO0_2.out).2.1); rintro e w137 ⟨rfl, hb⟩; refine ⟨_, rfl, ?_⟩; have n0_ := Aside0.mk (Kd.V_below (by exact HO0_2.out) hb); have n1_ := Aside0.mk (Kd.V_below (by exact HO1_2.out) hb); have n2_ := Aside0.mk (Kd.V_below (by exact HO2_2.out) hb); have n3_ := Aside0.mk (blk_below (g := gb328) (o := .cells #[.int .i64 a0_0, .int .i64 a0_1, .slice A0_2 l0_2.length c0_2] 24 (0, 0)) (by exact BK328.out) hb); have n4_ := Aside0.mk (blk_below (g := gb329) (o := .cells #[.int .i64 a1_0, .int .i64 a1_1, .slice A1_2 l1_2.length c1_2] 24 (0, 0)) (by exact BK329.out) hb); have n5_ := Aside0.mk (blk_below (g := gb330) (o := .cells #[.int .i64 a2_0, .int .i64 a2_1, .slice A2_2 l2_2.length c2_2] 24 (0, 0)) (by exact BK330.out) hb); have n6_ := Aside0.mk (below_step HB.out hb); clear HO0_2; clear HO1_2; clear HO2_2; clear BK328; clear BK329; clear BK330; clear HB; have HO0_2 := n0_; have HO1_2 := n1_; have HO2_2 := n2_; have BK328 := n3_; have BK329 := n4_; have BK330 := n5_; have HB := n6_; clear n0_ n1_ n2_ n3_ n4_ n5_ n6_; (try clear hb); (try clear hb2); (try clear hk); (try clear hi)))
    go_meet
    case rel => exact ⟨_, (true), (by first | rfl | (simp; done) | (simp [*]; done) | (simp; exact (by decide : ∀ x y : Bool, (x == y) = (!x != y)) _ _)), H', ⟨by first | omega | exact Nat.le_refl _⟩, ⟨by first | exact HO0_2.out | exact Kd.V_mono HO0_2.out (fun _ hk => ⟨hk.1.1.1.1, ⟨hk.1.1.1.2, ⟨hk.1.1.2, hk.1.2⟩⟩⟩)⟩, ⟨by first | exact HO1_2.out | exact Kd.V_mono HO1_2.out (fun _ hk => ⟨hk.1.1.1.1, ⟨hk.1.1.1.2, ⟨hk.1.1.2, hk.1.2⟩⟩⟩)⟩, ⟨by first | exact HO2_2.out | exact Kd.V_mono HO2_2.out (fun _ hk => ⟨hk.1.1.1.1, ⟨hk.1.1.1.2, ⟨hk.1.1.2, hk.1.2⟩⟩⟩)⟩, ⟨by exact BK328.out⟩, ⟨by exact BK329.out⟩, ⟨by exact BK330.out⟩, ⟨HB.out⟩⟩
  case rest =>
   clear HC9
   try clear c1
   try clear c2
   try clear p2
   try clear c3
   try clear c4
   try clear c5
   try clear c6
   try clear p6
   try clear c7
   try clear c8
   try clear c9
   try clear c10
   try clear c11
   try clear c12
   try clear c13
   try clear c17
   try clear c27
   try clear c27b0
   try clear c27b1
   try clear c28
   try clear c28b0
   try clear c29
   try clear c30
   try clear c32
   try clear c35
   try clear c35b0
   try clear c36
   try clear c37
   try clear c39
   try clear c42
   try clear c42b0
   try clear c43
   try clear c43b0
   try clear c44
   try clear c44b0
   try clear c45
   try clear c46
   try clear c48
   try clear c51
   try clear c51b0
   try clear c52
   try clear c52b0
   try clear c53
   try clear c54
   try clear c56
   try clear c60
   try clear c61
   try clear c63
   try clear p64
   try clear c69
   try clear c70
   try clear c72
   try clear c77
   try clear c77b0
   try clear c79
   try clear c80
   try clear c82
   try clear c88
   try clear c89
   try clear c91
   try clear c96
   try clear c96b0
   try clear c97
   try clear c97b0
   try clear c98
   try clear c98b0
   try clear c99
   try clear c100
   try clear c102
   try clear c106
   try clear c107
   try clear c109
   try clear c115
   try clear c116
   try clear c118
   try clear c124
   try clear c125
   try clear c127
   try clear c132
   try clear c133
   try clear c135
   try clear hcz101_0
   try clear hcz101_1
   try clear hcz101_2
   try clear hcz103_0
   try clear hcz103_1
   try clear hcz103_2
   try clear hcz108_0
   try clear hcz108_1
   try clear hcz108_2
   try clear hcz110_0
   try clear hcz110_1
   try clear hcz110_2
   try clear hcz112_0
   try clear hcz112_1
   try clear hcz112_2
   try clear hcz117_0
   try clear hcz117_1
   try clear hcz117_2
   try clear hcz119_0
   try clear hcz119_1
   try clear hcz119_2
   try clear hcz121_0
   try clear hcz121_1
   try clear hcz121_2
   try clear hcz126_0
   try clear hcz126_1
   try clear hcz126_2
   try clear hcz128_0
   try clear hcz128_1
   try clear hcz128_2
   try clear hcz130_0
   try clear hcz130_1
   try clear hcz130_2
   try clear hcz134_0
   try clear hcz134_1
   try clear hcz134_2
   try clear hcz136_0
   try clear hcz136_1
   try clear hcz136_2
   try clear hcz31_0
   try clear hcz31_1
   try clear hcz31_2
   try clear hcz33_0
   try clear hcz33_1
   try clear hcz33_2
   try clear hcz38_0
   try clear hcz38_1
   try clear hcz38_2
   try clear hcz40_0
   try clear hcz40_1
   try clear hcz40_2
   try clear hcz47_0
   try clear hcz47_1
   try clear hcz47_2
   try clear hcz49_0
   try clear hcz49_1
   try clear hcz49_2
   try clear hcz55_0
   try clear hcz55_1
   try clear hcz55_2
   try clear hcz57_0
   try clear hcz57_1
   try clear hcz57_2
   try clear hcz62_0
   try clear hcz62_1
   try clear hcz62_2
   try clear hcz64_0
   try clear hcz64_1
   try clear hcz64_2
   try clear hcz66_0
   try clear hcz66_1
   try clear hcz66_2
   try clear hcz71_0
   try clear hcz71_1
   try clear hcz71_2
   try clear hcz73_0
   try clear hcz73_1
   try clear hcz73_2
   try clear hcz75_0
   try clear hcz75_1
   try clear hcz75_2
   try clear hcz81_0
   try clear hcz81_1
   try clear hcz81_2
   try clear hcz83_0
   try clear hcz83_1
   try clear hcz83_2
   try clear hcz85_0
   try clear hcz85_1
   try clear hcz85_2
   try clear hcz90_0
   try clear hcz90_1
   try clear hcz90_2
   try clear hcz92_0
   try clear hcz92_1
   try clear hcz92_2
   try clear hcz94_0
   try clear hcz94_1
   try clear hcz94_2
   try clear hfz101_0
   try clear hfz101_1
   try clear hfz101_2
   try clear hfz103_0
   try clear hfz103_1
   try clear hfz103_2
   try clear hfz108_0
   try clear hfz108_1
   try clear hfz108_2
   try clear hfz110_0
   try clear hfz110_1
   try clear hfz110_2
   try clear hfz112_0
   try clear hfz112_1
   try clear hfz112_2
   try clear hfz117_0
   try clear hfz117_1
   try clear hfz117_2
   try clear hfz119_0
   try clear hfz119_1
   try clear hfz119_2
   try clear hfz121_0
   try clear hfz121_1
   try clear hfz121_2
   try clear hfz126_0
   try clear hfz126_1
   try clear hfz126_2
   try clear hfz128_0
   try clear hfz128_1
   try clear hfz128_2
   try clear hfz130_0
   try clear hfz130_1
   try clear hfz130_2
   try clear hfz134_0
   try clear hfz134_1
   try clear hfz134_2
   try clear hfz136_0
   try clear hfz136_1
   try clear hfz136_2
   try clear hfz31_0
   try clear hfz31_1
   try clear hfz31_2
   try clear hfz33_0
   try clear hfz33_1
   try clear hfz33_2
   try clear hfz38_0
   try clear hfz38_1
   try clear hfz38_2
   try clear hfz40_0
   try clear hfz40_1
   try clear hfz40_2
   try clear hfz47_0
   try clear hfz47_1
   try clear hfz47_2
   try clear hfz49_0
   try clear hfz49_1
   try clear hfz49_2
   try clear hfz55_0
   try clear hfz55_1
   try clear hfz55_2
   try clear hfz57_0
   try clear hfz57_1
   try clear hfz57_2
   try clear hfz62_0
   try clear hfz62_1
   try clear hfz62_2
   try clear hfz64_0
   try clear hfz64_1
   try clear hfz64_2
   try clear hfz66_0
   try clear hfz66_1
   try clear hfz66_2
   try clear hfz71_0
   try clear hfz71_1
   try clear hfz71_2
   try clear hfz73_0
   try clear hfz73_1
   try clear hfz73_2
   try clear hfz75_0
   try clear hfz75_1
   try clear hfz75_2
   try clear hfz81_0
   try clear hfz81_1
   try clear hfz81_2
   try clear hfz83_0
   try clear hfz83_1
   try clear hfz83_2
   try clear hfz85_0
   try clear hfz85_1
   try clear hfz85_2
   try clear hfz90_0
   try clear hfz90_1
   try clear hfz90_2
   try clear hfz92_0
   try clear hfz92_1
   try clear hfz92_2
   try clear hfz94_0
   try clear hfz94_1
   try clear hfz94_2
   obtain ⟨kq, x72_8, rfl, HA, HJ8, HO_329002, HO_330002, HO_331002, BK328, BK329, BK330, HB⟩ := hcut
   cases kq with
   | zero => exact absurd HA.out (by simp [ententelaw03_IdentOrder.j0])
   | succ kj8 =>
    have H := HA.out
    clear HA
    simp only [ententelaw03_IdentOrder.j0] at H
    by_cases c138 : x72_8 = true
    ·subst c138
     have H1 : (none) = some r := by rw [if_pos rfl] at H; exact H
     clear H
     have H := H1
     clear H1
     exact absurd H (by simp)
    ·replace c138 := Bool.eq_false_iff.mpr c138
     subst c138
     have H1 : ((ident_Parent.f a0_0 a0_1 l0_2).bind fun bt347 => ((ententeref03_Same.f kj8 a0_0 a0_1 l0_2 a1_0 a1_1 l1_2).bind fun t355 => (if ((t336 == 0) == t355) = true then (if bt347.2.2.2.2 = true then ((ident_Cmp.f kj8 bt347.1 bt347.2.1 bt347.2.2.1 a0_0 a0_1 l0_2).bind fun t356 => (if t356 = (-1) then ((ident_Under.f a0_0 a0_1 l0_2 (([(⟨bt347.1, bt347.2.1, bt347.2.2.1⟩ : S24)] : List (S24)))).bind fun t360 => (if t360 = true then ((ident_Under.f bt347.1 bt347.2.1 bt347.2.2.1 (([(⟨a0_0, a0_1, l0_2⟩ : S24)] : List (S24)))).bind fun t364 => (if t364 = true then (none) else ((ententelaw03_awake.f kj8).bind fun t365 => (some t365)))) else (none))) else (none))) else ((ententelaw03_awake.f kj8).bind fun t366 => (some t366))) else (none)))) = some r := by rw [if_neg (show ¬ (false = true) by decide)] at H; exact H
     clear H
     have H := H1
     clear H1
     replace H := Option.bind_eq_some_iff.mp H
     obtain ⟨⟨t347, t348, t349, t352, t353⟩, A1390, H⟩ := H
     replace H : ((ententeref03_Same.f kj8 a0_0 a0_1 l0_2 a1_0 a1_1 l1_2).bind fun t355 => (if ((t336 == 0) == t355) = true then (if t353 = true then ((ident_Cmp.f kj8 t347 t348 t349 a0_0 a0_1 l0_2).bind fun t356 => (if t356 = (-1) then ((ident_Under.f a0_0 a0_1 l0_2 (([(⟨t347, t348, t349⟩ : S24)] : List (S24)))).bind fun t360 => (if t360 = true then ((ident_Under.f t347 t348 t349 (([(⟨a0_0, a0_1, l0_2⟩ : S24)] : List (S24)))).bind fun t364 => (if t364 = true then (none) else ((ententelaw03_awake.f kj8).bind fun t365 => (some t365)))) else (none))) else (none))) else ((ententelaw03_awake.f kj8).bind fun t366 => (some t366))) else (none))) = some r := H
     have A139 := Aside0.mk A1390
     clear A1390
     replace H := Option.bind_eq_some_iff.mp H
     obtain ⟨t355, A1400, H⟩ := H
     replace H : (if ((t336 == 0) == t355) = true then (if t353 = true then ((ident_Cmp.f kj8 t347 t348 t349 a0_0 a0_1 l0_2).bind fun t356 => (if t356 = (-1) then ((ident_Under.f a0_0 a0_1 l0_2 (([(⟨t347, t348, t349⟩ : S24)] : List (S24)))).bind fun t360 => (if t360 = true then ((ident_Under.f t347 t348 t349 (([(⟨a0_0, a0_1, l0_2⟩ : S24)] : List (S24)))).bind fun t364 => (if t364 = true then (none) else ((ententelaw03_awake.f kj8).bind fun t365 => (some t365)))) else (none))) else (none))) else ((ententelaw03_awake.f kj8).bind fun t366 => (some t366))) else (none)) = some r := H
     have A140 := Aside0.mk A1400
     clear A1400
     by_cases c141 : ((t336 == 0) == t355) = true
     ·rw [if_pos c141] at H
      have c141b0 : ((t336 == 0) == t355) = true := c141
      (try (have c141b1 : decide ((t336 == 0) = t355) = true := by simpa using c141))
      (try (have c141b2 : ((t336 == 0) == t355) = true := by simpa using c141))
      clear c141
      by_cases c142 : t353 = true
      ·subst c142
       have H1 : ((ident_Cmp.f kj8 t347 t348 t349 a0_0 a0_1 l0_2).bind fun t356 => (if t356 = (-1) then ((ident_Under.f a0_0 a0_1 l0_2 (([(⟨t347, t348, t349⟩ : S24)] : List (S24)))).bind fun t360 => (if t360 = true then ((ident_Under.f t347 t348 t349 (([(⟨a0_0, a0_1, l0_2⟩ : S24)] : List (S24)))).bind fun t364 => (if t364 = true then (none) else ((ententelaw03_awake.f kj8).bind fun t365 => (some t365)))) else (none))) else (none))) = some r := by rw [if_pos rfl] at H; exact H
       clear H
       have H := H1
       clear H1
       replace H := Option.bind_eq_some_iff.mp H
       obtain ⟨t356, A1430, H⟩ := H
       replace H : (if t356 = (-1) then ((ident_Under.f a0_0 a0_1 l0_2 (([(⟨t347, t348, t349⟩ : S24)] : List (S24)))).bind fun t360 => (if t360 = true then ((ident_Under.f t347 t348 t349 (([(⟨a0_0, a0_1, l0_2⟩ : S24)] : List (S24)))).bind fun t364 => (if t364 = true then (none) else ((ententelaw03_awake.f kj8).bind fun t365 => (some t365)))) else (none))) else (none)) = some r := H
       have A143 := Aside0.mk A1430
       clear A1430
       by_cases c144 : t356 = (-1)
       ·rw [if_pos c144] at H
        have c144b0 : (t356 == (-1)) = true := beq_iff_eq.mpr c144
        have c144b1 : (t356 != (-1)) = false := bne_eq_false_iff_eq.mpr c144
        clear c144
        obtain ⟨y357, hy357⟩ : ∃ y_ : List (S24), y_ = (([(⟨t347, t348, t349⟩ : S24)] : List (S24))) := ⟨_, rfl⟩
        replace H : ((ident_Under.f a0_0 a0_1 l0_2 y357).bind fun t360 => (if t360 = true then ((ident_Under.f t347 t348 t349 (([(⟨a0_0, a0_1, l0_2⟩ : S24)] : List (S24)))).bind fun t364 => (if t364 = true then (none) else ((ententelaw03_awake.f kj8).bind fun t365 => (some t365)))) else (none))) = some r := by first | (rw [hy357]; with_reducible exact H) | (have H2_ := (Option.bind_some _ _).symm.trans H; rw [hy357]; with_reducible exact H2_) | (have H2_ := (Option.bind_some _ _).symm.trans H; with_reducible exact H2_) | with_reducible exact H | (rw [hy357]; exact H) | exact H
        have Ny357 := Aside0.mk hy357
        clear hy357
        replace H := Option.bind_eq_some_iff.mp H
        obtain ⟨t360, A1450, H⟩ := H
        replace H : (if t360 = true then ((ident_Under.f t347 t348 t349 (([(⟨a0_0, a0_1, l0_2⟩ : S24)] : List (S24)))).bind fun t364 => (if t364 = true then (none) else ((ententelaw03_awake.f kj8).bind fun t365 => (some t365)))) else (none)) = some r := H
        have A145 := Aside0.mk A1450
        clear A1450
        by_cases c146 : t360 = true
        ·subst c146
         have H1 : ((ident_Under.f t347 t348 t349 (([(⟨a0_0, a0_1, l0_2⟩ : S24)] : List (S24)))).bind fun t364 => (if t364 = true then (none) else ((ententelaw03_awake.f kj8).bind fun t365 => (some t365)))) = some r := by rw [if_pos rfl] at H; exact H
         clear H
         have H := H1
         clear H1
         obtain ⟨y361, hy361⟩ : ∃ y_ : List (S24), y_ = (([(⟨a0_0, a0_1, l0_2⟩ : S24)] : List (S24))) := ⟨_, rfl⟩
         replace H : ((ident_Under.f t347 t348 t349 y361).bind fun t364 => (if t364 = true then (none) else ((ententelaw03_awake.f kj8).bind fun t365 => (some t365)))) = some r := by first | (rw [hy361]; with_reducible exact H) | (have H2_ := (Option.bind_some _ _).symm.trans H; rw [hy361]; with_reducible exact H2_) | (have H2_ := (Option.bind_some _ _).symm.trans H; with_reducible exact H2_) | with_reducible exact H | (rw [hy361]; exact H) | exact H
         have Ny361 := Aside0.mk hy361
         clear hy361
         replace H := Option.bind_eq_some_iff.mp H
         obtain ⟨t364, A1470, H⟩ := H
         replace H : (if t364 = true then (none) else ((ententelaw03_awake.f kj8).bind fun t365 => (some t365))) = some r := H
         have A147 := Aside0.mk A1470
         clear A1470
         by_cases c148 : t364 = true
         ·subst c148
          have H1 : (none) = some r := by rw [if_pos rfl] at H; exact H
          clear H
          have H := H1
          clear H1
          exact absurd H (by simp)
         ·replace c148 := Bool.eq_false_iff.mpr c148
          subst c148
          have H1 : ((ententelaw03_awake.f kj8).bind fun t365 => (some t365)) = some r := by rw [if_neg (show ¬ (false = true) by decide)] at H; exact H
          clear H
          have H := H1
          clear H1
          replace H := Option.bind_eq_some_iff.mp H
          obtain ⟨t365, A1490, H⟩ := H
          replace H : (some t365) = some r := H
          have A149 := Aside0.mk A1490
          clear A1490
          obtain rfl := Option.some.inj H
          have hnb150 := NB328_329.out
          have hnc150 := NB329_328.out
          have hnb151 := NB328_330.out
          have hnc151 := NB330_328.out
          have hcz152_0 : wc.cell? ⟨gb328, 0, none⟩ = some (.int .i64 a0_0) := (blk_cell BK328.out 0).trans rfl
          have hcz152_1 : wc.cell? ⟨gb328, 1, none⟩ = some (.int .i64 a0_1) := (blk_cell BK328.out 1).trans rfl
          have hcz152_2 : wc.cell? ⟨gb328, 2, none⟩ = some (.slice A0_2 l0_2.length c0_2) := (blk_cell BK328.out 2).trans rfl
          have hfz152_0 := blk_frozen BK328.out 0
          have hfz152_1 := blk_frozen BK328.out 1
          have hfz152_2 := blk_frozen BK328.out 2
          go_wp2_with (first | ((with_reducible refine gate_callee (f := 12) rfl ?_); refine goesL_ (some 75) rfl rfl Tryd.func12 (by kernel_rfl) rfl #[.agg #[.int .i64 a0_0, .int .i64 a0_1, .slice A0_2 l0_2.length c0_2]] rfl (by (try simp only [List.map_toArray, List.map_cons, List.map_nil]); first | done | rfl | (simp only [List.length_drop, List.length_take]; rfl)) ?_; (with_reducible refine (ident_Parent.calls a0_0 a0_1 _ _ l0_2 t347 t348 t349 t352 true _ ?side1 ?side2 A139.out).mono ?_); (case side1 => exact (Kd.V_reads' HO_329002.out).2.2); (case side2 => exact (Kd.V_reads' HO_329002.out).2.1); rintro e w153 ⟨v350, rfl, ho0, hb⟩; refine ⟨_, rfl, ?_⟩; have n0_ := Aside0.mk (Kd.V_elder' (by exact HO_329002.out) (Kd.R_base ho0) hb); have n1_ := Aside0.mk (Kd.V_elder' (by exact HO_330002.out) (Kd.R_base ho0) hb); have n2_ := Aside0.mk (Kd.V_elder' (by exact HO_331002.out) (Kd.R_base ho0) hb); have n3_ := Aside0.mk (Kd.R_lower (Kd.R_newM (M := fun k_ => (w.heap.size ≤ k_)) ho0 (below_size HB.out) (fun k_ h_ => h_)) (below_size HB.out)); have n4_ := Aside0.mk (blk_below (g := gb328) (o := .cells #[.int .i64 a0_0, .int .i64 a0_1, .slice A0_2 l0_2.length c0_2] 24 (0, 0)) (by exact BK328.out) hb); have n5_ := Aside0.mk (blk_below (g := gb329) (o := .cells #[.int .i64 a1_0, .int .i64 a1_1, .slice A1_2 l1_2.length c1_2] 24 (0, 0)) (by exact BK329.out) hb); have n6_ := Aside0.mk (blk_below (g := gb330) (o := .cells #[.int .i64 a2_0, .int .i64 a2_1, .slice A2_2 l2_2.length c2_2] 24 (0, 0)) (by exact BK330.out) hb); have n7_ := Aside0.mk (below_step HB.out hb); clear HO_329002; clear HO_330002; clear HO_331002; clear BK328; clear BK329; clear BK330; clear HB; have HO_329002 := n0_; have HO_330002 := n1_; have HO_331002 := n2_; have HO351 := n3_; have BK328 := n4_; have BK329 := n5_; have BK330 := n6_; have HB := n7_; clear n0_ n1_ n2_ n3_ n4_ n5_ n6_ n7_; (try clear hb); (try clear hb2); (try clear hk); (try clear hi); (try clear ho0)) | ((with_reducible refine gate_dst (N := 10) rfl ?_); (try (refine gate_guard (by rfl) ?_; dsimp only)); refine box_event ?hg (N := 10) ?hd (cs := #[.int .i64 0, .int .i64 0, .slice none 0 0]) (t := 24) ?hr ?_; (case hd => rfl); (case hg => rfl); (case hr => first | (go_simp; done) | (go_simp; rfl)); intro gb354 hg w154 hbox hb; have n0_ := Aside0.mk (Kd.V_below (Kd.V_elderB (by exact HO_329002.out) gb354 (Nat.le_of_eq hg.symm)) hb); have n1_ := Aside0.mk (Kd.V_below (Kd.V_elderB (by exact HO_330002.out) gb354 (Nat.le_of_eq hg.symm)) hb); have n2_ := Aside0.mk (Kd.V_below (Kd.V_elderB (by exact HO_331002.out) gb354 (Nat.le_of_eq hg.symm)) hb); have n3_ := Aside0.mk (Kd.R_below (by exact HO351.out) hb); have n4_ := Aside0.mk (blk_below (g := gb328) (o := .cells #[.int .i64 a0_0, .int .i64 a0_1, .slice A0_2 l0_2.length c0_2] 24 (0, 0)) (by exact BK328.out) hb); have n5_ := Aside0.mk (blk_below (g := gb329) (o := .cells #[.int .i64 a1_0, .int .i64 a1_1, .slice A1_2 l1_2.length c1_2] 24 (0, 0)) (by exact BK329.out) hb); have n6_ := Aside0.mk (blk_below (g := gb330) (o := .cells #[.int .i64 a2_0, .int .i64 a2_1, .slice A2_2 l2_2.length c2_2] 24 (0, 0)) (by exact BK330.out) hb); have n7_ := Aside0.mk (below_step HB.out hb); have n8_ := Aside0.mk (hbox); have n9_ := Aside0.mk ((by rw [hg]; exact (below_size HB.out) : w.heap.size ≤ gb354)); have n10_ := Aside0.mk ((by rw [hg]; exact (below_size HB.out) : w.heap.size ≤ gb354)); have n11_ := Aside0.mk ((by rw [hg]; exact Nat.ne_of_lt (blk_lt (g := gb328) (o := .cells #[.int .i64 a0_0, .int .i64 a0_1, .slice A0_2 l0_2.length c0_2] 24 (0, 0)) (by exact BK328.out)) : gb328 ≠ gb354)); have n12_ := Aside0.mk ((by rw [hg]; exact Nat.ne_of_gt (blk_lt (g := gb328) (o := .cells #[.int .i64 a0_0, .int .i64 a0_1, .slice A0_2 l0_2.length c0_2] 24 (0, 0)) (by exact BK328.out)) : gb354 ≠ gb328)); have n13_ := Aside0.mk ((by rw [hg]; exact Nat.ne_of_lt (blk_lt (g := gb329) (o := .cells #[.int .i64 a1_0, .int .i64 a1_1, .slice A1_2 l1_2.length c1_2] 24 (0, 0)) (by exact BK329.out)) : gb329 ≠ gb354)); have n14_ := Aside0.mk ((by rw [hg]; exact Nat.ne_of_gt (blk_lt (g := gb329) (o := .cells #[.int .i64 a1_0, .int .i64 a1_1, .slice A1_2 l1_2.length c1_2] 24 (0, 0)) (by exact BK329.out)) : gb354 ≠ gb329)); have n15_ := Aside0.mk ((by rw [hg]; exact Nat.ne_of_lt (blk_lt (g := gb330) (o := .cells #[.int .i64 a2_0, .int .i64 a2_1, .slice A2_2 l2_2.length c2_2] 24 (0, 0)) (by exact BK330.out)) : gb330 ≠ gb354)); have n16_ := Aside0.mk ((by rw [hg]; exact Nat.ne_of_gt (blk_lt (g := gb330) (o := .cells #[.int .i64 a2_0, .int .i64 a2_1, .slice A2_2 l2_2.length c2_2] 24 (0, 0)) (by exact BK330.out)) : gb354 ≠ gb330)); clear HO_329002; clear HO_330002; clear HO_331002; clear HO351; clear BK328; clear BK329; clear BK330; clear HB; have HO_329002 := n0_; have HO_330002 := n1_; have HO_331002 := n2_; have HO351 := n3_; have BK328 := n4_; have BK329 := n5_; have BK330 := n6_; have HB := n7_; have BK354 := n8_; have GW354 := n9_; have GE354 := n10_; have NB328_354 := n11_; have NB354_328 := n12_; have NB329_354 := n13_; have NB354_329 := n14_; have NB330_354 := n15_; have NB354_330 := n16_; clear n0_ n1_ n2_ n3_ n4_ n5_ n6_ n7_ n8_ n9_ n10_ n11_ n12_ n13_ n14_ n15_ n16_; clear hb hbox hg; have hnb155 := NB354_328.out; have hnc155 := NB328_354.out; have hnb156 := NB354_329.out; have hnc156 := NB329_354.out; have hnb157 := NB354_330.out; have hnc157 := NB330_354.out; have hcz158_0 : w154.cell? ⟨gb354, 0, none⟩ = some (.int .i64 0) := (blk_cell BK354.out 0).trans rfl; have hcz158_1 : w154.cell? ⟨gb354, 1, none⟩ = some (.int .i64 0) := (blk_cell BK354.out 1).trans rfl; have hcz158_2 : w154.cell? ⟨gb354, 2, none⟩ = some (.slice none 0 0) := (blk_cell BK354.out 2).trans rfl; have hfz158_0 := blk_frozen BK354.out 0; have hfz158_1 := blk_frozen BK354.out 1; have hfz158_2 := blk_frozen BK354.out 2; obtain ⟨Ao159, co159, eo159⟩ := Kd.R_slice HO351.out; subst eo159; have hcz160_0 : w154.cell? ⟨gb328, 0, none⟩ = some (.int .i64 a0_0) := (blk_cell BK328.out 0).trans rfl; have hcz160_1 : w154.cell? ⟨gb328, 1, none⟩ = some (.int .i64 a0_1) := (blk_cell BK328.out 1).trans rfl; have hcz160_2 : w154.cell? ⟨gb328, 2, none⟩ = some (.slice A0_2 l0_2.length c0_2) := (blk_cell BK328.out 2).trans rfl; have hfz160_0 := blk_frozen BK328.out 0; have hfz160_1 := blk_frozen BK328.out 1; have hfz160_2 := blk_frozen BK328.out 2; have hnb161 := NB329_330.out; have hnc161 := NB330_329.out; have hcz162_0 : w154.cell? ⟨gb329, 0, none⟩ = some (.int .i64 a1_0) := (blk_cell BK329.out 0).trans rfl; have hcz162_1 : w154.cell? ⟨gb329, 1, none⟩ = some (.int .i64 a1_1) := (blk_cell BK329.out 1).trans rfl; have hcz162_2 : w154.cell? ⟨gb329, 2, none⟩ = some (.slice A1_2 l1_2.length c1_2) := (blk_cell BK329.out 2).trans rfl; have hfz162_0 := blk_frozen BK329.out 0; have hfz162_1 := blk_frozen BK329.out 1; have hfz162_2 := blk_frozen BK329.out 2) | ((with_reducible refine gate_callee (f := 16) rfl ?_); refine goesL_ (some 83) rfl rfl Tryd.func16 (by kernel_rfl) rfl #[.agg #[.int .i64 a0_0, .int .i64 a0_1, .slice A0_2 l0_2.length c0_2], .agg #[.int .i64 a1_0, .int .i64 a1_1, .slice A1_2 l1_2.length c1_2]] rfl (by (try simp only [List.map_toArray, List.map_cons, List.map_nil]); first | done | rfl | (simp only [List.length_drop, List.length_take]; rfl)) ?_; (with_reducible refine (ententeref03_Same.calls kj8 a0_0 a0_1 _ _ l0_2 a1_0 a1_1 _ _ l1_2 t355 _ ?side1 ?side2 ?side3 ?side4 A140.out).mono ?_); (case side1 => refine (Kd.V_reads' (e := 55) (base := w.heap.size) (ok := fun k_ => (((((P0_2_ k_ ∨ P1_2_ k_ ∨ P2_2_ k_) ∨ w.heap.size ≤ k_) ∧ (k_ ≠ gb328 ∧ (k_ ≠ gb329 ∧ k_ ≠ gb330))) ∧ some k_ ≠ (.slice Ao159 t349.length co159 : Value).ownBlock) ∧ k_ ≠ gb354)) (n := l0_2.length) (c := c0_2) ?_).2.2; exact (by exact (Kd.V_mono (Kd.V_far (p := ⟨gb354, 2, none⟩) (Kd.V_far (p := ⟨gb354, 1, none⟩) (Kd.V_far (p := ⟨gb354, 0, none⟩) (Kd.V_mono HO_329002.out (fun k_ hk => (⟨hk, hk.2⟩ : _ ∧ k_ ≠ gb354))) (fun _ hk => hk.2) (.int .i64 t347)) (fun _ hk => hk.2) (.int .i64 t348)) (fun _ hk => hk.2) (.slice Ao159 t349.length co159)) (fun _ h_ => h_.1)))); (case side2 => exact (Kd.V_reads' HO_329002.out).2.1); (case side3 => refine (Kd.V_reads' (e := 55) (base := w.heap.size) (ok := fun k_ => (((((P0_2_ k_ ∨ P1_2_ k_ ∨ P2_2_ k_) ∨ w.heap.size ≤ k_) ∧ (k_ ≠ gb328 ∧ (k_ ≠ gb329 ∧ k_ ≠ gb330))) ∧ some k_ ≠ (.slice Ao159 t349.length co159 : Value).ownBlock) ∧ k_ ≠ gb354)) (n := l1_2.length) (c := c1_2) ?_).2.2; exact (by exact (Kd.V_mono (Kd.V_far (p := ⟨gb354, 2, none⟩) (Kd.V_far (p := ⟨gb354, 1, none⟩) (Kd.V_far (p := ⟨gb354, 0, none⟩) (Kd.V_mono HO_330002.out (fun k_ hk => (⟨hk, hk.2⟩ : _ ∧ k_ ≠ gb354))) (fun _ hk => hk.2) (.int .i64 t347)) (fun _ hk => hk.2) (.int .i64 t348)) (fun _ hk => hk.2) (.slice Ao159 t349.length co159)) (fun _ h_ => h_.1)))); (case side4 => exact (Kd.V_reads' HO_330002.out).2.1); rintro e w163 ⟨rfl, hb⟩; refine ⟨_, rfl, ?_⟩; have n0_ := Aside0.mk (Kd.V_below (by exact (Kd.V_mono (Kd.V_far (p := ⟨gb354, 2, none⟩) (Kd.V_far (p := ⟨gb354, 1, none⟩) (Kd.V_far (p := ⟨gb354, 0, none⟩) (Kd.V_mono HO_329002.out (fun k_ hk => (⟨hk, hk.2⟩ : _ ∧ k_ ≠ gb354))) (fun _ hk => hk.2) (.int .i64 t347)) (fun _ hk => hk.2) (.int .i64 t348)) (fun _ hk => hk.2) (.slice Ao159 t349.length co159)) (fun _ h_ => h_.1))) hb); have n1_ := Aside0.mk (Kd.V_below (by exact (Kd.V_mono (Kd.V_far (p := ⟨gb354, 2, none⟩) (Kd.V_far (p := ⟨gb354, 1, none⟩) (Kd.V_far (p := ⟨gb354, 0, none⟩) (Kd.V_mono HO_330002.out (fun k_ hk => (⟨hk, hk.2⟩ : _ ∧ k_ ≠ gb354))) (fun _ hk => hk.2) (.int .i64 t347)) (fun _ hk => hk.2) (.int .i64 t348)) (fun _ hk => hk.2) (.slice Ao159 t349.length co159)) (fun _ h_ => h_.1))) hb); have n2_ := Aside0.mk (Kd.V_below (by exact (Kd.V_mono (Kd.V_far (p := ⟨gb354, 2, none⟩) (Kd.V_far (p := ⟨gb354, 1, none⟩) (Kd.V_far (p := ⟨gb354, 0, none⟩) (Kd.V_mono HO_331002.out (fun k_ hk => (⟨hk, hk.2⟩ : _ ∧ k_ ≠ gb354))) (fun _ hk => hk.2) (.int .i64 t347)) (fun _ hk => hk.2) (.int .i64 t348)) (fun _ hk => hk.2) (.slice Ao159 t349.length co159)) (fun _ h_ => h_.1))) hb); have n3_ := Aside0.mk (Kd.R_below (by exact (Kd.R_mono (Kd.R_far (p := ⟨gb354, 2, none⟩) (Kd.R_far (p := ⟨gb354, 1, none⟩) (Kd.R_far (p := ⟨gb354, 0, none⟩) (Kd.R_types HO351.out BK354.out (by decide)) (fun _ hk => hk.2) (.int .i64 t347)) (fun _ hk => hk.2) (.int .i64 t348)) (fun _ hk => hk.2) (.slice Ao159 t349.length co159)) (fun _ h_ => h_.1))) hb); have n4_ := Aside0.mk (blk_below (g := gb328) (o := .cells #[.int .i64 a0_0, .int .i64 a0_1, .slice A0_2 l0_2.length c0_2] 24 (0, 0)) (by refine blk_far ?_ NB328_354.out _; refine blk_far ?_ NB328_354.out _; refine blk_far ?_ NB328_354.out _; exact BK328.out) hb); have n5_ := Aside0.mk (blk_below (g := gb329) (o := .cells #[.int .i64 a1_0, .int .i64 a1_1, .slice A1_2 l1_2.length c1_2] 24 (0, 0)) (by refine blk_far ?_ NB329_354.out _; refine blk_far ?_ NB329_354.out _; refine blk_far ?_ NB329_354.out _; exact BK329.out) hb); have n6_ := Aside0.mk (blk_below (g := gb330) (o := .cells #[.int .i64 a2_0, .int .i64 a2_1, .slice A2_2 l2_2.length c2_2] 24 (0, 0)) (by refine blk_far ?_ NB330_354.out _; refine blk_far ?_ NB330_354.out _; refine blk_far ?_ NB330_354.out _; exact BK330.out) hb); have n7_ := Aside0.mk (blk_below (g := gb354) (o := .cells #[.int .i64 t347, .int .i64 t348, .slice Ao159 t349.length co159] 24 (0, 0)) (by refine blk_put (cs := #[.int .i64 t347, .int .i64 t348, .slice none 0 0]) ?_ 2 _ rfl; refine blk_put (cs := #[.int .i64 t347, .int .i64 0, .slice none 0 0]) ?_ 1 _ rfl; refine blk_put (cs := #[.int .i64 0, .int .i64 0, .slice none 0 0]) ?_ 0 _ rfl; exact BK354.out) hb); have n8_ := Aside0.mk (below_step (by repeat (first | (with_reducible first | exact HB.out | apply below_alloc | apply pw_below_drewN | apply below_drew1 | refine below_set ?_ GE328.out | refine below_set ?_ GE329.out | refine below_set ?_ GE330.out | refine below_set ?_ GE354.out) | exact HB.out)) hb); clear HO_329002; clear HO_330002; clear HO_331002; clear HO351; clear BK328; clear BK329; clear BK330; clear BK354; clear HB; have HO_329002 := n0_; have HO_330002 := n1_; have HO_331002 := n2_; have HO351 := n3_; have BK328 := n4_; have BK329 := n5_; have BK330 := n6_; have BK354 := n7_; have HB := n8_; clear n0_ n1_ n2_ n3_ n4_ n5_ n6_ n7_ n8_; (try clear hb); (try clear hb2); (try clear hk); (try clear hi); have hcz164_0 : w163.cell? ⟨gb354, 0, none⟩ = some (.int .i64 t347) := (blk_cell BK354.out 0).trans rfl; have hcz164_1 : w163.cell? ⟨gb354, 1, none⟩ = some (.int .i64 t348) := (blk_cell BK354.out 1).trans rfl; have hcz164_2 : w163.cell? ⟨gb354, 2, none⟩ = some (.slice Ao159 t349.length co159) := (blk_cell BK354.out 2).trans rfl; have hfz164_0 := blk_frozen BK354.out 0; have hfz164_1 := blk_frozen BK354.out 1; have hfz164_2 := blk_frozen BK354.out 2; have hcz165_0 : w163.cell? ⟨gb328, 0, none⟩ = some (.int .i64 a0_0) := (blk_cell BK328.out 0).trans rfl; have hcz165_1 : w163.cell? ⟨gb328, 1, none⟩ = some (.int .i64 a0_1) := (blk_cell BK328.out 1).trans rfl; have hcz165_2 : w163.cell? ⟨gb328, 2, none⟩ = some (.slice A0_2 l0_2.length c0_2) := (blk_cell BK328.out 2).trans rfl; have hfz165_0 := blk_frozen BK328.out 0; have hfz165_1 := blk_frozen BK328.out 1; have hfz165_2 := blk_frozen BK328.out 2) | (go_at_call 17; (with_reducible refine (ident_Cmp.calls kj8 t347 t348 _ _ t349 a0_0 a0_1 _ _ l0_2 t356 _ ?side1 ?side2 ?side3 ?side4 A143.out).mono ?_); (case side1 => exact (Kd.R_reads' HO351.out).2.2); (case side2 => exact (Kd.R_reads' HO351.out).2.1); (case side3 => exact (Kd.V_reads' HO_329002.out).2.2); (case side4 => exact (Kd.V_reads' HO_329002.out).2.1); rintro e w166 ⟨rfl, hb⟩; have n0_ := Aside0.mk (Kd.V_below (by exact HO_329002.out) hb); have n1_ := Aside0.mk (Kd.V_below (by exact HO_330002.out) hb); have n2_ := Aside0.mk (Kd.V_below (by exact HO_331002.out) hb); have n3_ := Aside0.mk (Kd.R_below (by exact HO351.out) hb); have n4_ := Aside0.mk (blk_below (g := gb328) (o := .cells #[.int .i64 a0_0, .int .i64 a0_1, .slice A0_2 l0_2.length c0_2] 24 (0, 0)) (by exact BK328.out) hb); have n5_ := Aside0.mk (blk_below (g := gb329) (o := .cells #[.int .i64 a1_0, .int .i64 a1_1, .slice A1_2 l1_2.length c1_2] 24 (0, 0)) (by exact BK329.out) hb); have n6_ := Aside0.mk (blk_below (g := gb330) (o := .cells #[.int .i64 a2_0, .int .i64 a2_1, .slice A2_2 l2_2.length c2_2] 24 (0, 0)) (by exact BK330.out) hb); have n7_ := Aside0.mk (blk_below (g := gb354) (o := .cells #[.int .i64 t347, .int .i64 t348, .slice Ao159 t349.length co159] 24 (0, 0)) (by exact BK354.out) hb); have n8_ := Aside0.mk (below_step HB.out hb); clear HO_329002; clear HO_330002; clear HO_331002; clear HO351; clear BK328; clear BK329; clear BK330; clear BK354; clear HB; have HO_329002 := n0_; have HO_330002 := n1_; have HO_331002 := n2_; have HO351 := n3_; have BK328 := n4_; have BK329 := n5_; have BK330 := n6_; have BK354 := n7_; have HB := n8_; clear n0_ n1_ n2_ n3_ n4_ n5_ n6_ n7_ n8_; (try clear hb); (try clear hb2); (try clear hk); (try clear hi); have hcz167_0 : w166.cell? ⟨gb328, 0, none⟩ = some (.int .i64 a0_0) := (blk_cell BK328.out 0).trans rfl; have hcz167_1 : w166.cell? ⟨gb328, 1, none⟩ = some (.int .i64 a0_1) := (blk_cell BK328.out 1).trans rfl; have hcz167_2 : w166.cell? ⟨gb328, 2, none⟩ = some (.slice A0_2 l0_2.length c0_2) := (blk_cell BK328.out 2).trans rfl; have hfz167_0 := blk_frozen BK328.out 0; have hfz167_1 := blk_frozen BK328.out 1; have hfz167_2 := blk_frozen BK328.out 2; have hcz168_0 : w166.cell? ⟨gb354, 0, none⟩ = some (.int .i64 t347) := (blk_cell BK354.out 0).trans rfl; have hcz168_1 : w166.cell? ⟨gb354, 1, none⟩ = some (.int .i64 t348) := (blk_cell BK354.out 1).trans rfl; have hcz168_2 : w166.cell? ⟨gb354, 2, none⟩ = some (.slice Ao159 t349.length co159) := (blk_cell BK354.out 2).trans rfl; have hfz168_0 := blk_frozen BK354.out 0; have hfz168_1 := blk_frozen BK354.out 1; have hfz168_2 := blk_frozen BK354.out 2) | ((with_reducible refine gate_dst (N := 96) rfl ?_); (try (refine gate_guard (by rfl) ?_; dsimp only)); refine Kd.N_lit k24 _ 24 ?hg (N' := 96) ?hd (xs := ([(⟨t347, t348, t349⟩ : S24)] : List (S24))) (inner := [.int .i64 t347, .int .i64 t348, .slice Ao159 t349.length co159]) (ok := (fun k_ => ((P0_2_ k_ ∨ P1_2_ k_ ∨ P2_2_ k_) ∨ w.heap.size ≤ k_) ∧ k_ ≠ gb328 ∧ k_ ≠ gb329 ∧ k_ ≠ gb330 ∧ k_ ≠ gb354)) (okp := (fun k_ => ((P0_2_ k_ ∨ P1_2_ k_ ∨ P2_2_ k_) ∨ w.heap.size ≤ k_) ∧ k_ ≠ gb328 ∧ k_ ≠ gb329 ∧ k_ ≠ gb330 ∧ k_ ≠ gb354)) ?hr ?hp (fun _ hk => hk) ((show ∀ k_, w166.heap.size ≤ k_ → (fun k_ => ((P0_2_ k_ ∨ P1_2_ k_ ∨ P2_2_ k_) ∨ w.heap.size ≤ k_) ∧ k_ ≠ gb328 ∧ k_ ≠ gb329 ∧ k_ ≠ gb330 ∧ k_ ≠ gb354) k_ from fun k_ hk => ⟨(.inr (Nat.le_trans (below_size HB.out) hk)), Kd.freshB (g := gb328) (o := .cells #[.int .i64 a0_0, .int .i64 a0_1, .slice A0_2 l0_2.length c0_2] 24 (0, 0)) (by exact BK328.out) k_ hk, Kd.freshB (g := gb329) (o := .cells #[.int .i64 a1_0, .int .i64 a1_1, .slice A1_2 l1_2.length c1_2] 24 (0, 0)) (by exact BK329.out) k_ hk, Kd.freshB (g := gb330) (o := .cells #[.int .i64 a2_0, .int .i64 a2_1, .slice A2_2 l2_2.length c2_2] 24 (0, 0)) (by exact BK330.out) k_ hk, Kd.freshB (g := gb354) (o := .cells #[.int .i64 t347, .int .i64 t348, .slice Ao159 t349.length co159] 24 (0, 0)) (by exact BK354.out) k_ hk⟩) _ (Nat.le_refl _)) (Below.refl _ _) (Nat.le_refl _) (by simp) ?_; (case hd => rfl); (case hg => rfl); (case hr => first | (go_simp; done) | (go_simp; rfl)); (case hp => exact (Reps.c3 (show Kd.FK k24 _ _ (⟨t347, t348, t349⟩ : S24) [.int .i64 t347, .int .i64 t348, .slice Ao159 t349.length co159] from (k24_mkF _ _ (⟨t347, t348, t349⟩ : S24) (Kd.R_reads' (Kd.R_mono (ok' := (fun k_ => ((P0_2_ k_ ∨ P1_2_ k_ ∨ P2_2_ k_) ∨ w.heap.size ≤ k_) ∧ k_ ≠ gb328 ∧ k_ ≠ gb329 ∧ k_ ≠ gb330 ∧ k_ ≠ gb354)) (Kd.R_types (Kd.R_types (Kd.R_types (Kd.R_types (HO351.out) BK328.out (by decide)) BK329.out (by decide)) BK330.out (by decide)) BK354.out (by decide)) (fun k_ hk => ⟨(.inr (hk.1.1.1.1.1)), ⟨hk.1.1.1.2, ⟨hk.1.1.2, ⟨hk.1.2, hk.2⟩⟩⟩⟩))).2.1 (Kd.R_F (Kd.R_mono (ok' := (fun k_ => ((P0_2_ k_ ∨ P1_2_ k_ ∨ P2_2_ k_) ∨ w.heap.size ≤ k_) ∧ k_ ≠ gb328 ∧ k_ ≠ gb329 ∧ k_ ≠ gb330 ∧ k_ ≠ gb354)) (Kd.R_types (Kd.R_types (Kd.R_types (Kd.R_types (HO351.out) BK328.out (by decide)) BK329.out (by decide)) BK330.out (by decide)) BK354.out (by decide)) (fun k_ hk => ⟨(.inr (hk.1.1.1.1.1)), ⟨hk.1.1.1.2, ⟨hk.1.1.2, ⟨hk.1.2, hk.2⟩⟩⟩⟩))))) (Reps.none _ _))); intro v358 w169 ho170 hb hg_ hnew_; clear hg_ hnew_; (first | rw [← Ny357.out] at ho170 | (simp only [Int.reduceToNat] at ho170; rw [← Ny357.out] at ho170)); have n0_ := Aside0.mk (Kd.V_elder' (by exact HO_329002.out) (Kd.N_base ho170) hb); have n1_ := Aside0.mk (Kd.V_elder' (by exact HO_330002.out) (Kd.N_base ho170) hb); have n2_ := Aside0.mk (Kd.V_elder' (by exact HO_331002.out) (Kd.N_base ho170) hb); have n3_ := Aside0.mk (Kd.R_below (by exact HO351.out) hb); have n4_ := Aside0.mk (Kd.N_lower ho170 (below_size HB.out)); have n5_ := Aside0.mk (blk_below (g := gb328) (o := .cells #[.int .i64 a0_0, .int .i64 a0_1, .slice A0_2 l0_2.length c0_2] 24 (0, 0)) (by exact BK328.out) hb); have n6_ := Aside0.mk (blk_below (g := gb329) (o := .cells #[.int .i64 a1_0, .int .i64 a1_1, .slice A1_2 l1_2.length c1_2] 24 (0, 0)) (by exact BK329.out) hb); have n7_ := Aside0.mk (blk_below (g := gb330) (o := .cells #[.int .i64 a2_0, .int .i64 a2_1, .slice A2_2 l2_2.length c2_2] 24 (0, 0)) (by exact BK330.out) hb); have n8_ := Aside0.mk (blk_below (g := gb354) (o := .cells #[.int .i64 t347, .int .i64 t348, .slice Ao159 t349.length co159] 24 (0, 0)) (by exact BK354.out) hb); have n9_ := Aside0.mk (below_step HB.out hb); clear HO_329002; clear HO_330002; clear HO_331002; clear HO351; clear BK328; clear BK329; clear BK330; clear BK354; clear HB; have HO_329002 := n0_; have HO_330002 := n1_; have HO_331002 := n2_; have HO351 := n3_; have HO359 := n4_; have BK328 := n5_; have BK329 := n6_; have BK330 := n7_; have BK354 := n8_; have HB := n9_; clear n0_ n1_ n2_ n3_ n4_ n5_ n6_ n7_ n8_ n9_; clear hb ho170; obtain ⟨Ao171, co171, eo171⟩ := Kd.N_slice HO359.out; subst eo171) | (go_at_call 19; (with_reducible refine (ident_Under.calls a0_0 a0_1 _ _ l0_2 _ _ y357 true _ ?side1 ?side2 ?side3 ?side4 A145.out).mono ?_); (case side1 => exact (Kd.V_reads' HO_329002.out).2.2); (case side2 => exact (Kd.V_reads' HO_329002.out).2.1); (case side3 => exact (Kd.N_reads' HO359.out).2.2); (case side4 => exact (Kd.N_reads' HO359.out).2.1); rintro e w172 ⟨rfl, hb⟩; have n0_ := Aside0.mk (Kd.V_below (by exact HO_329002.out) hb); have n1_ := Aside0.mk (Kd.V_below (by exact HO_330002.out) hb); have n2_ := Aside0.mk (Kd.V_below (by exact HO_331002.out) hb); have n3_ := Aside0.mk (Kd.R_below (by exact HO351.out) hb); have n4_ := Aside0.mk (blk_below (g := gb328) (o := .cells #[.int .i64 a0_0, .int .i64 a0_1, .slice A0_2 l0_2.length c0_2] 24 (0, 0)) (by exact BK328.out) hb); have n5_ := Aside0.mk (blk_below (g := gb329) (o := .cells #[.int .i64 a1_0, .int .i64 a1_1, .slice A1_2 l1_2.length c1_2] 24 (0, 0)) (by exact BK329.out) hb); have n6_ := Aside0.mk (blk_below (g := gb330) (o := .cells #[.int .i64 a2_0, .int .i64 a2_1, .slice A2_2 l2_2.length c2_2] 24 (0, 0)) (by exact BK330.out) hb); have n7_ := Aside0.mk (blk_below (g := gb354) (o := .cells #[.int .i64 t347, .int .i64 t348, .slice Ao159 t349.length co159] 24 (0, 0)) (by exact BK354.out) hb); have n8_ := Aside0.mk (below_step HB.out hb); clear HO_329002; clear HO_330002; clear HO_331002; clear HO351; clear BK328; clear BK329; clear BK330; clear BK354; clear HB; have HO_329002 := n0_; have HO_330002 := n1_; have HO_331002 := n2_; have HO351 := n3_; have BK328 := n4_; have BK329 := n5_; have BK330 := n6_; have BK354 := n7_; have HB := n8_; clear n0_ n1_ n2_ n3_ n4_ n5_ n6_ n7_ n8_; (try clear hb); (try clear hb2); (try clear hk); (try clear hi); have hcz173_0 : w172.cell? ⟨gb354, 0, none⟩ = some (.int .i64 t347) := (blk_cell BK354.out 0).trans rfl; have hcz173_1 : w172.cell? ⟨gb354, 1, none⟩ = some (.int .i64 t348) := (blk_cell BK354.out 1).trans rfl; have hcz173_2 : w172.cell? ⟨gb354, 2, none⟩ = some (.slice Ao159 t349.length co159) := (blk_cell BK354.out 2).trans rfl; have hfz173_0 := blk_frozen BK354.out 0; have hfz173_1 := blk_frozen BK354.out 1; have hfz173_2 := blk_frozen BK354.out 2; have hcz174_0 : w172.cell? ⟨gb328, 0, none⟩ = some (.int .i64 a0_0) := (blk_cell BK328.out 0).trans rfl; have hcz174_1 : w172.cell? ⟨gb328, 1, none⟩ = some (.int .i64 a0_1) := (blk_cell BK328.out 1).trans rfl; have hcz174_2 : w172.cell? ⟨gb328, 2, none⟩ = some (.slice A0_2 l0_2.length c0_2) := (blk_cell BK328.out 2).trans rfl; have hfz174_0 := blk_frozen BK328.out 0; have hfz174_1 := blk_frozen BK328.out 1; have hfz174_2 := blk_frozen BK328.out 2) | ((with_reducible refine gate_dst (N := 102) rfl ?_); (try (refine gate_guard (by rfl) ?_; dsimp only)); refine Kd.N_lit k24 _ 24 ?hg (N' := 102) ?hd (xs := ([(⟨a0_0, a0_1, l0_2⟩ : S24)] : List (S24))) (inner := [.int .i64 a0_0, .int .i64 a0_1, .slice A0_2 l0_2.length c0_2]) (ok := (fun k_ => ((P0_2_ k_ ∨ P1_2_ k_ ∨ P2_2_ k_) ∨ w.heap.size ≤ k_) ∧ some k_ ≠ (.slice Ao159 t349.length co159 : Value).ownBlock ∧ k_ ≠ gb328 ∧ k_ ≠ gb329 ∧ k_ ≠ gb330 ∧ k_ ≠ gb354)) (okp := (fun k_ => ((P0_2_ k_ ∨ P1_2_ k_ ∨ P2_2_ k_) ∨ w.heap.size ≤ k_) ∧ some k_ ≠ (.slice Ao159 t349.length co159 : Value).ownBlock ∧ k_ ≠ gb328 ∧ k_ ≠ gb329 ∧ k_ ≠ gb330 ∧ k_ ≠ gb354)) ?hr ?hp (fun _ hk => hk) ((show ∀ k_, w172.heap.size ≤ k_ → (fun k_ => ((P0_2_ k_ ∨ P1_2_ k_ ∨ P2_2_ k_) ∨ w.heap.size ≤ k_) ∧ some k_ ≠ (.slice Ao159 t349.length co159 : Value).ownBlock ∧ k_ ≠ gb328 ∧ k_ ≠ gb329 ∧ k_ ≠ gb330 ∧ k_ ≠ gb354) k_ from fun k_ hk => ⟨(.inr (Nat.le_trans (below_size HB.out) hk)), Kd.fresh' (Kd.R_lt (by exact HO351.out)) k_ hk, Kd.freshB (g := gb328) (o := .cells #[.int .i64 a0_0, .int .i64 a0_1, .slice A0_2 l0_2.length c0_2] 24 (0, 0)) (by exact BK328.out) k_ hk, Kd.freshB (g := gb329) (o := .cells #[.int .i64 a1_0, .int .i64 a1_1, .slice A1_2 l1_2.length c1_2] 24 (0, 0)) (by exact BK329.out) k_ hk, Kd.freshB (g := gb330) (o := .cells #[.int .i64 a2_0, .int .i64 a2_1, .slice A2_2 l2_2.length c2_2] 24 (0, 0)) (by exact BK330.out) k_ hk, Kd.freshB (g := gb354) (o := .cells #[.int .i64 t347, .int .i64 t348, .slice Ao159 t349.length co159] 24 (0, 0)) (by exact BK354.out) k_ hk⟩) _ (Nat.le_refl _)) (Below.refl _ _) (Nat.le_refl _) (by simp) ?_; (case hd => rfl); (case hg => rfl); (case hr => first | (go_simp; done) | (go_simp; rfl)); (case hp => exact (Reps.c3 (show Kd.FK k24 _ _ (⟨a0_0, a0_1, l0_2⟩ : S24) [.int .i64 a0_0, .int .i64 a0_1, .slice A0_2 l0_2.length c0_2] from (k24_mkF _ _ (⟨a0_0, a0_1, l0_2⟩ : S24) (Kd.V_reads' (Kd.V_mono (ok' := (fun k_ => ((P0_2_ k_ ∨ P1_2_ k_ ∨ P2_2_ k_) ∨ w.heap.size ≤ k_) ∧ some k_ ≠ (.slice Ao159 t349.length co159 : Value).ownBlock ∧ k_ ≠ gb328 ∧ k_ ≠ gb329 ∧ k_ ≠ gb330 ∧ k_ ≠ gb354)) (HO_329002.out) (fun k_ hk => ⟨hk.1.1.1.1, ⟨hk.1.1.2, ⟨hk.1.1.1.2.1, ⟨hk.1.1.1.2.2.1, ⟨hk.1.1.1.2.2.2, hk.1.2⟩⟩⟩⟩⟩))).2.1 (Kd.V_F (Kd.V_mono (ok' := (fun k_ => ((P0_2_ k_ ∨ P1_2_ k_ ∨ P2_2_ k_) ∨ w.heap.size ≤ k_) ∧ some k_ ≠ (.slice Ao159 t349.length co159 : Value).ownBlock ∧ k_ ≠ gb328 ∧ k_ ≠ gb329 ∧ k_ ≠ gb330 ∧ k_ ≠ gb354)) (HO_329002.out) (fun k_ hk => ⟨hk.1.1.1.1, ⟨hk.1.1.2, ⟨hk.1.1.1.2.1, ⟨hk.1.1.1.2.2.1, ⟨hk.1.1.1.2.2.2, hk.1.2⟩⟩⟩⟩⟩))))) (Reps.none _ _))); intro v362 w175 ho176 hb hg_ hnew_; clear hg_ hnew_; (first | rw [← Ny361.out] at ho176 | (simp only [Int.reduceToNat] at ho176; rw [← Ny361.out] at ho176)); have n0_ := Aside0.mk (Kd.V_elder' (by exact HO_329002.out) (Kd.N_base ho176) hb); have n1_ := Aside0.mk (Kd.V_elder' (by exact HO_330002.out) (Kd.N_base ho176) hb); have n2_ := Aside0.mk (Kd.V_elder' (by exact HO_331002.out) (Kd.N_base ho176) hb); have n3_ := Aside0.mk (Kd.R_below (by exact HO351.out) hb); have n4_ := Aside0.mk (Kd.N_lower ho176 (below_size HB.out)); have n5_ := Aside0.mk (blk_below (g := gb328) (o := .cells #[.int .i64 a0_0, .int .i64 a0_1, .slice A0_2 l0_2.length c0_2] 24 (0, 0)) (by exact BK328.out) hb); have n6_ := Aside0.mk (blk_below (g := gb329) (o := .cells #[.int .i64 a1_0, .int .i64 a1_1, .slice A1_2 l1_2.length c1_2] 24 (0, 0)) (by exact BK329.out) hb); have n7_ := Aside0.mk (blk_below (g := gb330) (o := .cells #[.int .i64 a2_0, .int .i64 a2_1, .slice A2_2 l2_2.length c2_2] 24 (0, 0)) (by exact BK330.out) hb); have n8_ := Aside0.mk (blk_below (g := gb354) (o := .cells #[.int .i64 t347, .int .i64 t348, .slice Ao159 t349.length co159] 24 (0, 0)) (by exact BK354.out) hb); have n9_ := Aside0.mk (below_step HB.out hb); clear HO_329002; clear HO_330002; clear HO_331002; clear HO351; clear BK328; clear BK329; clear BK330; clear BK354; clear HB; have HO_329002 := n0_; have HO_330002 := n1_; have HO_331002 := n2_; have HO351 := n3_; have HO363 := n4_; have BK328 := n5_; have BK329 := n6_; have BK330 := n7_; have BK354 := n8_; have HB := n9_; clear n0_ n1_ n2_ n3_ n4_ n5_ n6_ n7_ n8_ n9_; clear hb ho176; obtain ⟨Ao177, co177, eo177⟩ := Kd.N_slice HO363.out; subst eo177) | (go_at_call 19; (with_reducible refine (ident_Under.calls t347 t348 _ _ t349 _ _ y361 false _ ?side1 ?side2 ?side3 ?side4 A147.out).mono ?_); (case side1 => exact (Kd.R_reads' HO351.out).2.2); (case side2 => exact (Kd.R_reads' HO351.out).2.1); (case side3 => exact (Kd.N_reads' HO363.out).2.2); (case side4 => exact (Kd.N_reads' HO363.out).2.1); rintro e w178 ⟨rfl, hb⟩; have n0_ := Aside0.mk (Kd.V_below (by exact HO_329002.out) hb); have n1_ := Aside0.mk (Kd.V_below (by exact HO_330002.out) hb); have n2_ := Aside0.mk (Kd.V_below (by exact HO_331002.out) hb); have n3_ := Aside0.mk (Kd.R_below (by exact HO351.out) hb); have n4_ := Aside0.mk (blk_below (g := gb328) (o := .cells #[.int .i64 a0_0, .int .i64 a0_1, .slice A0_2 l0_2.length c0_2] 24 (0, 0)) (by exact BK328.out) hb); have n5_ := Aside0.mk (blk_below (g := gb329) (o := .cells #[.int .i64 a1_0, .int .i64 a1_1, .slice A1_2 l1_2.length c1_2] 24 (0, 0)) (by exact BK329.out) hb); have n6_ := Aside0.mk (blk_below (g := gb330) (o := .cells #[.int .i64 a2_0, .int .i64 a2_1, .slice A2_2 l2_2.length c2_2] 24 (0, 0)) (by exact BK330.out) hb); have n7_ := Aside0.mk (blk_below (g := gb354) (o := .cells #[.int .i64 t347, .int .i64 t348, .slice Ao159 t349.length co159] 24 (0, 0)) (by exact BK354.out) hb); have n8_ := Aside0.mk (below_step HB.out hb); clear HO_329002; clear HO_330002; clear HO_331002; clear HO351; clear BK328; clear BK329; clear BK330; clear BK354; clear HB; have HO_329002 := n0_; have HO_330002 := n1_; have HO_331002 := n2_; have HO351 := n3_; have BK328 := n4_; have BK329 := n5_; have BK330 := n6_; have BK354 := n7_; have HB := n8_; clear n0_ n1_ n2_ n3_ n4_ n5_ n6_ n7_ n8_; (try clear hb); (try clear hb2); (try clear hk); (try clear hi)) | (go_at_call 11; (with_reducible refine (ententelaw03_awake.calls kj8  t365 _ ?side1 A149.out).mono ?_); (case side1 => exact WH.below HWH_.out HB.out); rintro e w179 ⟨rfl, hb⟩; have n0_ := Aside0.mk (Kd.V_below (by exact HO_329002.out) hb); have n1_ := Aside0.mk (Kd.V_below (by exact HO_330002.out) hb); have n2_ := Aside0.mk (Kd.V_below (by exact HO_331002.out) hb); have n3_ := Aside0.mk (Kd.R_below (by exact HO351.out) hb); have n4_ := Aside0.mk (blk_below (g := gb328) (o := .cells #[.int .i64 a0_0, .int .i64 a0_1, .slice A0_2 l0_2.length c0_2] 24 (0, 0)) (by exact BK328.out) hb); have n5_ := Aside0.mk (blk_below (g := gb329) (o := .cells #[.int .i64 a1_0, .int .i64 a1_1, .slice A1_2 l1_2.length c1_2] 24 (0, 0)) (by exact BK329.out) hb); have n6_ := Aside0.mk (blk_below (g := gb330) (o := .cells #[.int .i64 a2_0, .int .i64 a2_1, .slice A2_2 l2_2.length c2_2] 24 (0, 0)) (by exact BK330.out) hb); have n7_ := Aside0.mk (blk_below (g := gb354) (o := .cells #[.int .i64 t347, .int .i64 t348, .slice Ao159 t349.length co159] 24 (0, 0)) (by exact BK354.out) hb); have n8_ := Aside0.mk (below_step HB.out hb); clear HO_329002; clear HO_330002; clear HO_331002; clear HO351; clear BK328; clear BK329; clear BK330; clear BK354; clear HB; have HO_329002 := n0_; have HO_330002 := n1_; have HO_331002 := n2_; have HO351 := n3_; have BK328 := n4_; have BK329 := n5_; have BK330 := n6_; have BK354 := n7_; have HB := n8_; clear n0_ n1_ n2_ n3_ n4_ n5_ n6_ n7_ n8_; (try clear hb); (try clear hb2); (try clear hk); (try clear hi)))
          go_ret
          exact ⟨by first | rfl | (simp [errW_none, errW_some] <;> rfl) | (simp [*, errW_none, errW_some] <;> rfl), HB.out⟩
        ·replace c146 := Bool.eq_false_iff.mpr c146
         subst c146
         have H1 : (none) = some r := by rw [if_neg (show ¬ (false = true) by decide)] at H; exact H
         clear H
         have H := H1
         clear H1
         exact absurd H (by simp)
       ·rw [if_neg c144] at H
        exact absurd H (by simp)
      ·replace c142 := Bool.eq_false_iff.mpr c142
       subst c142
       have H1 : ((ententelaw03_awake.f kj8).bind fun t366 => (some t366)) = some r := by rw [if_neg (show ¬ (false = true) by decide)] at H; exact H
       clear H
       have H := H1
       clear H1
       replace H := Option.bind_eq_some_iff.mp H
       obtain ⟨t366, A1800, H⟩ := H
       replace H : (some t366) = some r := H
       have A180 := Aside0.mk A1800
       clear A1800
       obtain rfl := Option.some.inj H
       have hnb181 := NB328_329.out
       have hnc181 := NB329_328.out
       have hnb182 := NB328_330.out
       have hnc182 := NB330_328.out
       have hcz183_0 : wc.cell? ⟨gb328, 0, none⟩ = some (.int .i64 a0_0) := (blk_cell BK328.out 0).trans rfl
       have hcz183_1 : wc.cell? ⟨gb328, 1, none⟩ = some (.int .i64 a0_1) := (blk_cell BK328.out 1).trans rfl
       have hcz183_2 : wc.cell? ⟨gb328, 2, none⟩ = some (.slice A0_2 l0_2.length c0_2) := (blk_cell BK328.out 2).trans rfl
       have hfz183_0 := blk_frozen BK328.out 0
       have hfz183_1 := blk_frozen BK328.out 1
       have hfz183_2 := blk_frozen BK328.out 2
       go_wp2_with (first | ((with_reducible refine gate_callee (f := 12) rfl ?_); refine goesL_ (some 75) rfl rfl Tryd.func12 (by kernel_rfl) rfl #[.agg #[.int .i64 a0_0, .int .i64 a0_1, .slice A0_2 l0_2.length c0_2]] rfl (by (try simp only [List.map_toArray, List.map_cons, List.map_nil]); first | done | rfl | (simp only [List.length_drop, List.length_take]; rfl)) ?_; (with_reducible refine (ident_Parent.calls a0_0 a0_1 _ _ l0_2 t347 t348 t349 t352 false _ ?side1 ?side2 A139.out).mono ?_); (case side1 => exact (Kd.V_reads' HO_329002.out).2.2); (case side2 => exact (Kd.V_reads' HO_329002.out).2.1); rintro e w184 ⟨v350, rfl, ho0, hb⟩; refine ⟨_, rfl, ?_⟩; have n0_ := Aside0.mk (Kd.V_elder' (by exact HO_329002.out) (Kd.R_base ho0) hb); have n1_ := Aside0.mk (Kd.V_elder' (by exact HO_330002.out) (Kd.R_base ho0) hb); have n2_ := Aside0.mk (Kd.V_elder' (by exact HO_331002.out) (Kd.R_base ho0) hb); have n3_ := Aside0.mk (Kd.R_lower (Kd.R_newM (M := fun k_ => (w.heap.size ≤ k_)) ho0 (below_size HB.out) (fun k_ h_ => h_)) (below_size HB.out)); have n4_ := Aside0.mk (blk_below (g := gb328) (o := .cells #[.int .i64 a0_0, .int .i64 a0_1, .slice A0_2 l0_2.length c0_2] 24 (0, 0)) (by exact BK328.out) hb); have n5_ := Aside0.mk (blk_below (g := gb329) (o := .cells #[.int .i64 a1_0, .int .i64 a1_1, .slice A1_2 l1_2.length c1_2] 24 (0, 0)) (by exact BK329.out) hb); have n6_ := Aside0.mk (blk_below (g := gb330) (o := .cells #[.int .i64 a2_0, .int .i64 a2_1, .slice A2_2 l2_2.length c2_2] 24 (0, 0)) (by exact BK330.out) hb); have n7_ := Aside0.mk (below_step HB.out hb); clear HO_329002; clear HO_330002; clear HO_331002; clear BK328; clear BK329; clear BK330; clear HB; have HO_329002 := n0_; have HO_330002 := n1_; have HO_331002 := n2_; have HO351 := n3_; have BK328 := n4_; have BK329 := n5_; have BK330 := n6_; have HB := n7_; clear n0_ n1_ n2_ n3_ n4_ n5_ n6_ n7_; (try clear hb); (try clear hb2); (try clear hk); (try clear hi); (try clear ho0)) | ((with_reducible refine gate_dst (N := 10) rfl ?_); (try (refine gate_guard (by rfl) ?_; dsimp only)); refine box_event ?hg (N := 10) ?hd (cs := #[.int .i64 0, .int .i64 0, .slice none 0 0]) (t := 24) ?hr ?_; (case hd => rfl); (case hg => rfl); (case hr => first | (go_simp; done) | (go_simp; rfl)); intro gb354 hg w185 hbox hb; have n0_ := Aside0.mk (Kd.V_below (Kd.V_elderB (by exact HO_329002.out) gb354 (Nat.le_of_eq hg.symm)) hb); have n1_ := Aside0.mk (Kd.V_below (Kd.V_elderB (by exact HO_330002.out) gb354 (Nat.le_of_eq hg.symm)) hb); have n2_ := Aside0.mk (Kd.V_below (Kd.V_elderB (by exact HO_331002.out) gb354 (Nat.le_of_eq hg.symm)) hb); have n3_ := Aside0.mk (Kd.R_below (by exact HO351.out) hb); have n4_ := Aside0.mk (blk_below (g := gb328) (o := .cells #[.int .i64 a0_0, .int .i64 a0_1, .slice A0_2 l0_2.length c0_2] 24 (0, 0)) (by exact BK328.out) hb); have n5_ := Aside0.mk (blk_below (g := gb329) (o := .cells #[.int .i64 a1_0, .int .i64 a1_1, .slice A1_2 l1_2.length c1_2] 24 (0, 0)) (by exact BK329.out) hb); have n6_ := Aside0.mk (blk_below (g := gb330) (o := .cells #[.int .i64 a2_0, .int .i64 a2_1, .slice A2_2 l2_2.length c2_2] 24 (0, 0)) (by exact BK330.out) hb); have n7_ := Aside0.mk (below_step HB.out hb); have n8_ := Aside0.mk (hbox); have n9_ := Aside0.mk ((by rw [hg]; exact (below_size HB.out) : w.heap.size ≤ gb354)); have n10_ := Aside0.mk ((by rw [hg]; exact (below_size HB.out) : w.heap.size ≤ gb354)); have n11_ := Aside0.mk ((by rw [hg]; exact Nat.ne_of_lt (blk_lt (g := gb328) (o := .cells #[.int .i64 a0_0, .int .i64 a0_1, .slice A0_2 l0_2.length c0_2] 24 (0, 0)) (by exact BK328.out)) : gb328 ≠ gb354)); have n12_ := Aside0.mk ((by rw [hg]; exact Nat.ne_of_gt (blk_lt (g := gb328) (o := .cells #[.int .i64 a0_0, .int .i64 a0_1, .slice A0_2 l0_2.length c0_2] 24 (0, 0)) (by exact BK328.out)) : gb354 ≠ gb328)); have n13_ := Aside0.mk ((by rw [hg]; exact Nat.ne_of_lt (blk_lt (g := gb329) (o := .cells #[.int .i64 a1_0, .int .i64 a1_1, .slice A1_2 l1_2.length c1_2] 24 (0, 0)) (by exact BK329.out)) : gb329 ≠ gb354)); have n14_ := Aside0.mk ((by rw [hg]; exact Nat.ne_of_gt (blk_lt (g := gb329) (o := .cells #[.int .i64 a1_0, .int .i64 a1_1, .slice A1_2 l1_2.length c1_2] 24 (0, 0)) (by exact BK329.out)) : gb354 ≠ gb329)); have n15_ := Aside0.mk ((by rw [hg]; exact Nat.ne_of_lt (blk_lt (g := gb330) (o := .cells #[.int .i64 a2_0, .int .i64 a2_1, .slice A2_2 l2_2.length c2_2] 24 (0, 0)) (by exact BK330.out)) : gb330 ≠ gb354)); have n16_ := Aside0.mk ((by rw [hg]; exact Nat.ne_of_gt (blk_lt (g := gb330) (o := .cells #[.int .i64 a2_0, .int .i64 a2_1, .slice A2_2 l2_2.length c2_2] 24 (0, 0)) (by exact BK330.out)) : gb354 ≠ gb330)); clear HO_329002; clear HO_330002; clear HO_331002; clear HO351; clear BK328; clear BK329; clear BK330; clear HB; have HO_329002 := n0_; have HO_330002 := n1_; have HO_331002 := n2_; have HO351 := n3_; have BK328 := n4_; have BK329 := n5_; have BK330 := n6_; have HB := n7_; have BK354 := n8_; have GW354 := n9_; have GE354 := n10_; have NB328_354 := n11_; have NB354_328 := n12_; have NB329_354 := n13_; have NB354_329 := n14_; have NB330_354 := n15_; have NB354_330 := n16_; clear n0_ n1_ n2_ n3_ n4_ n5_ n6_ n7_ n8_ n9_ n10_ n11_ n12_ n13_ n14_ n15_ n16_; clear hb hbox hg; have hnb186 := NB354_328.out; have hnc186 := NB328_354.out; have hnb187 := NB354_329.out; have hnc187 := NB329_354.out; have hnb188 := NB354_330.out; have hnc188 := NB330_354.out; have hcz189_0 : w185.cell? ⟨gb354, 0, none⟩ = some (.int .i64 0) := (blk_cell BK354.out 0).trans rfl; have hcz189_1 : w185.cell? ⟨gb354, 1, none⟩ = some (.int .i64 0) := (blk_cell BK354.out 1).trans rfl; have hcz189_2 : w185.cell? ⟨gb354, 2, none⟩ = some (.slice none 0 0) := (blk_cell BK354.out 2).trans rfl; have hfz189_0 := blk_frozen BK354.out 0; have hfz189_1 := blk_frozen BK354.out 1; have hfz189_2 := blk_frozen BK354.out 2; obtain ⟨Ao190, co190, eo190⟩ := Kd.R_slice HO351.out; subst eo190; have hcz191_0 : w185.cell? ⟨gb328, 0, none⟩ = some (.int .i64 a0_0) := (blk_cell BK328.out 0).trans rfl; have hcz191_1 : w185.cell? ⟨gb328, 1, none⟩ = some (.int .i64 a0_1) := (blk_cell BK328.out 1).trans rfl; have hcz191_2 : w185.cell? ⟨gb328, 2, none⟩ = some (.slice A0_2 l0_2.length c0_2) := (blk_cell BK328.out 2).trans rfl; have hfz191_0 := blk_frozen BK328.out 0; have hfz191_1 := blk_frozen BK328.out 1; have hfz191_2 := blk_frozen BK328.out 2; have hnb192 := NB329_330.out; have hnc192 := NB330_329.out; have hcz193_0 : w185.cell? ⟨gb329, 0, none⟩ = some (.int .i64 a1_0) := (blk_cell BK329.out 0).trans rfl; have hcz193_1 : w185.cell? ⟨gb329, 1, none⟩ = some (.int .i64 a1_1) := (blk_cell BK329.out 1).trans rfl; have hcz193_2 : w185.cell? ⟨gb329, 2, none⟩ = some (.slice A1_2 l1_2.length c1_2) := (blk_cell BK329.out 2).trans rfl; have hfz193_0 := blk_frozen BK329.out 0; have hfz193_1 := blk_frozen BK329.out 1; have hfz193_2 := blk_frozen BK329.out 2) | ((with_reducible refine gate_callee (f := 16) rfl ?_); refine goesL_ (some 83) rfl rfl Tryd.func16 (by kernel_rfl) rfl #[.agg #[.int .i64 a0_0, .int .i64 a0_1, .slice A0_2 l0_2.length c0_2], .agg #[.int .i64 a1_0, .int .i64 a1_1, .slice A1_2 l1_2.length c1_2]] rfl (by (try simp only [List.map_toArray, List.map_cons, List.map_nil]); first | done | rfl | (simp only [List.length_drop, List.length_take]; rfl)) ?_; (with_reducible refine (ententeref03_Same.calls kj8 a0_0 a0_1 _ _ l0_2 a1_0 a1_1 _ _ l1_2 t355 _ ?side1 ?side2 ?side3 ?side4 A140.out).mono ?_); (case side1 => refine (Kd.V_reads' (e := 55) (base := w.heap.size) (ok := fun k_ => (((((P0_2_ k_ ∨ P1_2_ k_ ∨ P2_2_ k_) ∨ w.heap.size ≤ k_) ∧ (k_ ≠ gb328 ∧ (k_ ≠ gb329 ∧ k_ ≠ gb330))) ∧ some k_ ≠ (.slice Ao190 t349.length co190 : Value).ownBlock) ∧ k_ ≠ gb354)) (n := l0_2.length) (c := c0_2) ?_).2.2; exact (by exact (Kd.V_mono (Kd.V_far (p := ⟨gb354, 2, none⟩) (Kd.V_far (p := ⟨gb354, 1, none⟩) (Kd.V_far (p := ⟨gb354, 0, none⟩) (Kd.V_mono HO_329002.out (fun k_ hk => (⟨hk, hk.2⟩ : _ ∧ k_ ≠ gb354))) (fun _ hk => hk.2) (.int .i64 t347)) (fun _ hk => hk.2) (.int .i64 t348)) (fun _ hk => hk.2) (.slice Ao190 t349.length co190)) (fun _ h_ => h_.1)))); (case side2 => exact (Kd.V_reads' HO_329002.out).2.1); (case side3 => refine (Kd.V_reads' (e := 55) (base := w.heap.size) (ok := fun k_ => (((((P0_2_ k_ ∨ P1_2_ k_ ∨ P2_2_ k_) ∨ w.heap.size ≤ k_) ∧ (k_ ≠ gb328 ∧ (k_ ≠ gb329 ∧ k_ ≠ gb330))) ∧ some k_ ≠ (.slice Ao190 t349.length co190 : Value).ownBlock) ∧ k_ ≠ gb354)) (n := l1_2.length) (c := c1_2) ?_).2.2; exact (by exact (Kd.V_mono (Kd.V_far (p := ⟨gb354, 2, none⟩) (Kd.V_far (p := ⟨gb354, 1, none⟩) (Kd.V_far (p := ⟨gb354, 0, none⟩) (Kd.V_mono HO_330002.out (fun k_ hk => (⟨hk, hk.2⟩ : _ ∧ k_ ≠ gb354))) (fun _ hk => hk.2) (.int .i64 t347)) (fun _ hk => hk.2) (.int .i64 t348)) (fun _ hk => hk.2) (.slice Ao190 t349.length co190)) (fun _ h_ => h_.1)))); (case side4 => exact (Kd.V_reads' HO_330002.out).2.1); rintro e w194 ⟨rfl, hb⟩; refine ⟨_, rfl, ?_⟩; have n0_ := Aside0.mk (Kd.V_below (by exact (Kd.V_mono (Kd.V_far (p := ⟨gb354, 2, none⟩) (Kd.V_far (p := ⟨gb354, 1, none⟩) (Kd.V_far (p := ⟨gb354, 0, none⟩) (Kd.V_mono HO_329002.out (fun k_ hk => (⟨hk, hk.2⟩ : _ ∧ k_ ≠ gb354))) (fun _ hk => hk.2) (.int .i64 t347)) (fun _ hk => hk.2) (.int .i64 t348)) (fun _ hk => hk.2) (.slice Ao190 t349.length co190)) (fun _ h_ => h_.1))) hb); have n1_ := Aside0.mk (Kd.V_below (by exact (Kd.V_mono (Kd.V_far (p := ⟨gb354, 2, none⟩) (Kd.V_far (p := ⟨gb354, 1, none⟩) (Kd.V_far (p := ⟨gb354, 0, none⟩) (Kd.V_mono HO_330002.out (fun k_ hk => (⟨hk, hk.2⟩ : _ ∧ k_ ≠ gb354))) (fun _ hk => hk.2) (.int .i64 t347)) (fun _ hk => hk.2) (.int .i64 t348)) (fun _ hk => hk.2) (.slice Ao190 t349.length co190)) (fun _ h_ => h_.1))) hb); have n2_ := Aside0.mk (Kd.V_below (by exact (Kd.V_mono (Kd.V_far (p := ⟨gb354, 2, none⟩) (Kd.V_far (p := ⟨gb354, 1, none⟩) (Kd.V_far (p := ⟨gb354, 0, none⟩) (Kd.V_mono HO_331002.out (fun k_ hk => (⟨hk, hk.2⟩ : _ ∧ k_ ≠ gb354))) (fun _ hk => hk.2) (.int .i64 t347)) (fun _ hk => hk.2) (.int .i64 t348)) (fun _ hk => hk.2) (.slice Ao190 t349.length co190)) (fun _ h_ => h_.1))) hb); have n3_ := Aside0.mk (Kd.R_below (by exact (Kd.R_mono (Kd.R_far (p := ⟨gb354, 2, none⟩) (Kd.R_far (p := ⟨gb354, 1, none⟩) (Kd.R_far (p := ⟨gb354, 0, none⟩) (Kd.R_types HO351.out BK354.out (by decide)) (fun _ hk => hk.2) (.int .i64 t347)) (fun _ hk => hk.2) (.int .i64 t348)) (fun _ hk => hk.2) (.slice Ao190 t349.length co190)) (fun _ h_ => h_.1))) hb); have n4_ := Aside0.mk (blk_below (g := gb328) (o := .cells #[.int .i64 a0_0, .int .i64 a0_1, .slice A0_2 l0_2.length c0_2] 24 (0, 0)) (by refine blk_far ?_ NB328_354.out _; refine blk_far ?_ NB328_354.out _; refine blk_far ?_ NB328_354.out _; exact BK328.out) hb); have n5_ := Aside0.mk (blk_below (g := gb329) (o := .cells #[.int .i64 a1_0, .int .i64 a1_1, .slice A1_2 l1_2.length c1_2] 24 (0, 0)) (by refine blk_far ?_ NB329_354.out _; refine blk_far ?_ NB329_354.out _; refine blk_far ?_ NB329_354.out _; exact BK329.out) hb); have n6_ := Aside0.mk (blk_below (g := gb330) (o := .cells #[.int .i64 a2_0, .int .i64 a2_1, .slice A2_2 l2_2.length c2_2] 24 (0, 0)) (by refine blk_far ?_ NB330_354.out _; refine blk_far ?_ NB330_354.out _; refine blk_far ?_ NB330_354.out _; exact BK330.out) hb); have n7_ := Aside0.mk (blk_below (g := gb354) (o := .cells #[.int .i64 t347, .int .i64 t348, .slice Ao190 t349.length co190] 24 (0, 0)) (by refine blk_put (cs := #[.int .i64 t347, .int .i64 t348, .slice none 0 0]) ?_ 2 _ rfl; refine blk_put (cs := #[.int .i64 t347, .int .i64 0, .slice none 0 0]) ?_ 1 _ rfl; refine blk_put (cs := #[.int .i64 0, .int .i64 0, .slice none 0 0]) ?_ 0 _ rfl; exact BK354.out) hb); have n8_ := Aside0.mk (below_step (by repeat (first | (with_reducible first | exact HB.out | apply below_alloc | apply pw_below_drewN | apply below_drew1 | refine below_set ?_ GE328.out | refine below_set ?_ GE329.out | refine below_set ?_ GE330.out | refine below_set ?_ GE354.out) | exact HB.out)) hb); clear HO_329002; clear HO_330002; clear HO_331002; clear HO351; clear BK328; clear BK329; clear BK330; clear BK354; clear HB; have HO_329002 := n0_; have HO_330002 := n1_; have HO_331002 := n2_; have HO351 := n3_; have BK328 := n4_; have BK329 := n5_; have BK330 := n6_; have BK354 := n7_; have HB := n8_; clear n0_ n1_ n2_ n3_ n4_ n5_ n6_ n7_ n8_; (try clear hb); (try clear hb2); (try clear hk); (try clear hi)) | (go_at_call 11; (with_reducible refine (ententelaw03_awake.calls kj8  t366 _ ?side1 A180.out).mono ?_); (case side1 => exact WH.below HWH_.out HB.out); rintro e w195 ⟨rfl, hb⟩; have n0_ := Aside0.mk (Kd.V_below (by exact HO_329002.out) hb); have n1_ := Aside0.mk (Kd.V_below (by exact HO_330002.out) hb); have n2_ := Aside0.mk (Kd.V_below (by exact HO_331002.out) hb); have n3_ := Aside0.mk (Kd.R_below (by exact HO351.out) hb); have n4_ := Aside0.mk (blk_below (g := gb328) (o := .cells #[.int .i64 a0_0, .int .i64 a0_1, .slice A0_2 l0_2.length c0_2] 24 (0, 0)) (by exact BK328.out) hb); have n5_ := Aside0.mk (blk_below (g := gb329) (o := .cells #[.int .i64 a1_0, .int .i64 a1_1, .slice A1_2 l1_2.length c1_2] 24 (0, 0)) (by exact BK329.out) hb); have n6_ := Aside0.mk (blk_below (g := gb330) (o := .cells #[.int .i64 a2_0, .int .i64 a2_1, .slice A2_2 l2_2.length c2_2] 24 (0, 0)) (by exact BK330.out) hb); have n7_ := Aside0.mk (blk_below (g := gb354) (o := .cells #[.int .i64 t347, .int .i64 t348, .slice Ao190 t349.length co190] 24 (0, 0)) (by exact BK354.out) hb); have n8_ := Aside0.mk (below_step HB.out hb); clear HO_329002; clear HO_330002; clear HO_331002; clear HO351; clear BK328; clear BK329; clear BK330; clear BK354; clear HB; have HO_329002 := n0_; have HO_330002 := n1_; have HO_331002 := n2_; have HO351 := n3_; have BK328 := n4_; have BK329 := n5_; have BK330 := n6_; have BK354 := n7_; have HB := n8_; clear n0_ n1_ n2_ n3_ n4_ n5_ n6_ n7_ n8_; (try clear hb); (try clear hb2); (try clear hk); (try clear hi)))
       go_ret
       exact ⟨by first | rfl | (simp [errW_none, errW_some] <;> rfl) | (simp [*, errW_none, errW_some] <;> rfl), HB.out⟩
     ·rw [if_neg c141] at H
      exact absurd H (by simp)
 ·replace c5 := Bool.eq_false_iff.mpr c5
  subst c5
  have H1 : ((ententelaw03_awake.f k).bind fun t335 => (some t335)) = some r := by rw [if_neg (show ¬ (false = true) by decide)] at H; exact H
  clear H
  have H := H1
  clear H1
  replace H := Option.bind_eq_some_iff.mp H
  obtain ⟨t335, A1960, H⟩ := H
  replace H : (some t335) = some r := H
  have A196 := Aside0.mk A1960
  clear A1960
  obtain rfl := Option.some.inj H
  go_enter Tryd.func7, Tryd.ntmps7
  go_wp2_with (first | ((with_reducible refine gate_dst (N := 3) rfl ?_); (try (refine gate_guard (by rfl) ?_; dsimp only)); refine box_event ?hg (N := 3) ?hd (cs := #[.int .i64 a0_0, .int .i64 a0_1, .slice A0_2 l0_2.length c0_2]) (t := 24) ?hr ?_; (case hd => rfl); (case hg => rfl); (case hr => first | (go_simp; done) | (go_simp; rfl)); intro gb328 hg w197 hbox hb; have n0_ := Aside0.mk (Kd.V_below (Kd.V_elderB (by exact HO0_2.out) gb328 (Nat.le_of_eq hg.symm)) hb); have n1_ := Aside0.mk (Kd.V_below (Kd.V_elderB (by exact HO1_2.out) gb328 (Nat.le_of_eq hg.symm)) hb); have n2_ := Aside0.mk (Kd.V_below (Kd.V_elderB (by exact HO2_2.out) gb328 (Nat.le_of_eq hg.symm)) hb); have n3_ := Aside0.mk (below_step HB.out hb); have n4_ := Aside0.mk (hbox); have n5_ := Aside0.mk ((by rw [hg]; exact (below_size HB.out) : w.heap.size ≤ gb328)); have n6_ := Aside0.mk ((by rw [hg]; exact (below_size HB.out) : w.heap.size ≤ gb328)); clear HO0_2; clear HO1_2; clear HO2_2; clear HB; have HO0_2 := n0_; have HO1_2 := n1_; have HO2_2 := n2_; have HB := n3_; have BK328 := n4_; have GW328 := n5_; have GE328 := n6_; clear n0_ n1_ n2_ n3_ n4_ n5_ n6_; clear hb hbox hg) | ((with_reducible refine gate_dst (N := 4) rfl ?_); (try (refine gate_guard (by rfl) ?_; dsimp only)); refine box_event ?hg (N := 4) ?hd (cs := #[.int .i64 a1_0, .int .i64 a1_1, .slice A1_2 l1_2.length c1_2]) (t := 24) ?hr ?_; (case hd => rfl); (case hg => rfl); (case hr => first | (go_simp; done) | (go_simp; rfl)); intro gb329 hg w198 hbox hb; have n0_ := Aside0.mk (Kd.V_below (Kd.V_elderB (by exact HO0_2.out) gb329 (Nat.le_of_eq hg.symm)) hb); have n1_ := Aside0.mk (Kd.V_below (Kd.V_elderB (by exact HO1_2.out) gb329 (Nat.le_of_eq hg.symm)) hb); have n2_ := Aside0.mk (Kd.V_below (Kd.V_elderB (by exact HO2_2.out) gb329 (Nat.le_of_eq hg.symm)) hb); have n3_ := Aside0.mk (blk_below (g := gb328) (o := .cells #[.int .i64 a0_0, .int .i64 a0_1, .slice A0_2 l0_2.length c0_2] 24 (0, 0)) (by exact BK328.out) hb); have n4_ := Aside0.mk (below_step HB.out hb); have n5_ := Aside0.mk (hbox); have n6_ := Aside0.mk ((by rw [hg]; exact (below_size HB.out) : w.heap.size ≤ gb329)); have n7_ := Aside0.mk ((by rw [hg]; exact (below_size HB.out) : w.heap.size ≤ gb329)); have n8_ := Aside0.mk ((by rw [hg]; exact Nat.ne_of_lt (blk_lt (g := gb328) (o := .cells #[.int .i64 a0_0, .int .i64 a0_1, .slice A0_2 l0_2.length c0_2] 24 (0, 0)) (by exact BK328.out)) : gb328 ≠ gb329)); have n9_ := Aside0.mk ((by rw [hg]; exact Nat.ne_of_gt (blk_lt (g := gb328) (o := .cells #[.int .i64 a0_0, .int .i64 a0_1, .slice A0_2 l0_2.length c0_2] 24 (0, 0)) (by exact BK328.out)) : gb329 ≠ gb328)); clear HO0_2; clear HO1_2; clear HO2_2; clear BK328; clear HB; have HO0_2 := n0_; have HO1_2 := n1_; have HO2_2 := n2_; have BK328 := n3_; have HB := n4_; have BK329 := n5_; have GW329 := n6_; have GE329 := n7_; have NB328_329 := n8_; have NB329_328 := n9_; clear n0_ n1_ n2_ n3_ n4_ n5_ n6_ n7_ n8_ n9_; clear hb hbox hg) | ((with_reducible refine gate_dst (N := 5) rfl ?_); (try (refine gate_guard (by rfl) ?_; dsimp only)); refine box_event ?hg (N := 5) ?hd (cs := #[.int .i64 a2_0, .int .i64 a2_1, .slice A2_2 l2_2.length c2_2]) (t := 24) ?hr ?_; (case hd => rfl); (case hg => rfl); (case hr => first | (go_simp; done) | (go_simp; rfl)); intro gb330 hg w199 hbox hb; have n0_ := Aside0.mk (Kd.V_below (Kd.V_elderB (by exact HO0_2.out) gb330 (Nat.le_of_eq hg.symm)) hb); have n1_ := Aside0.mk (Kd.V_below (Kd.V_elderB (by exact HO1_2.out) gb330 (Nat.le_of_eq hg.symm)) hb); have n2_ := Aside0.mk (Kd.V_below (Kd.V_elderB (by exact HO2_2.out) gb330 (Nat.le_of_eq hg.symm)) hb); have n3_ := Aside0.mk (blk_below (g := gb328) (o := .cells #[.int .i64 a0_0, .int .i64 a0_1, .slice A0_2 l0_2.length c0_2] 24 (0, 0)) (by exact BK328.out) hb); have n4_ := Aside0.mk (blk_below (g := gb329) (o := .cells #[.int .i64 a1_0, .int .i64 a1_1, .slice A1_2 l1_2.length c1_2] 24 (0, 0)) (by exact BK329.out) hb); have n5_ := Aside0.mk (below_step HB.out hb); have n6_ := Aside0.mk (hbox); have n7_ := Aside0.mk ((by rw [hg]; exact (below_size HB.out) : w.heap.size ≤ gb330)); have n8_ := Aside0.mk ((by rw [hg]; exact (below_size HB.out) : w.heap.size ≤ gb330)); have n9_ := Aside0.mk ((by rw [hg]; exact Nat.ne_of_lt (blk_lt (g := gb328) (o := .cells #[.int .i64 a0_0, .int .i64 a0_1, .slice A0_2 l0_2.length c0_2] 24 (0, 0)) (by exact BK328.out)) : gb328 ≠ gb330)); have n10_ := Aside0.mk ((by rw [hg]; exact Nat.ne_of_gt (blk_lt (g := gb328) (o := .cells #[.int .i64 a0_0, .int .i64 a0_1, .slice A0_2 l0_2.length c0_2] 24 (0, 0)) (by exact BK328.out)) : gb330 ≠ gb328)); have n11_ := Aside0.mk ((by rw [hg]; exact Nat.ne_of_lt (blk_lt (g := gb329) (o := .cells #[.int .i64 a1_0, .int .i64 a1_1, .slice A1_2 l1_2.length c1_2] 24 (0, 0)) (by exact BK329.out)) : gb329 ≠ gb330)); have n12_ := Aside0.mk ((by rw [hg]; exact Nat.ne_of_gt (blk_lt (g := gb329) (o := .cells #[.int .i64 a1_0, .int .i64 a1_1, .slice A1_2 l1_2.length c1_2] 24 (0, 0)) (by exact BK329.out)) : gb330 ≠ gb329)); clear HO0_2; clear HO1_2; clear HO2_2; clear BK328; clear BK329; clear HB; have HO0_2 := n0_; have HO1_2 := n1_; have HO2_2 := n2_; have BK328 := n3_; have BK329 := n4_; have HB := n5_; have BK330 := n6_; have GW330 := n7_; have GE330 := n8_; have NB328_330 := n9_; have NB330_328 := n10_; have NB329_330 := n11_; have NB330_329 := n12_; clear n0_ n1_ n2_ n3_ n4_ n5_ n6_ n7_ n8_ n9_ n10_ n11_ n12_; clear hb hbox hg; have hnb200 := NB328_329.out; have hnc200 := NB329_328.out; have hnb201 := NB328_330.out; have hnc201 := NB330_328.out; have hcz202_0 : w199.cell? ⟨gb328, 0, none⟩ = some (.int .i64 a0_0) := (blk_cell BK328.out 0).trans rfl; have hcz202_1 : w199.cell? ⟨gb328, 1, none⟩ = some (.int .i64 a0_1) := (blk_cell BK328.out 1).trans rfl; have hcz202_2 : w199.cell? ⟨gb328, 2, none⟩ = some (.slice A0_2 l0_2.length c0_2) := (blk_cell BK328.out 2).trans rfl; have hfz202_0 := blk_frozen BK328.out 0; have hfz202_1 := blk_frozen BK328.out 1; have hfz202_2 := blk_frozen BK328.out 2; have hnb203 := NB329_330.out; have hnc203 := NB330_329.out; have hcz204_0 : w199.cell? ⟨gb329, 0, none⟩ = some (.int .i64 a1_0) := (blk_cell BK329.out 0).trans rfl; have hcz204_1 : w199.cell? ⟨gb329, 1, none⟩ = some (.int .i64 a1_1) := (blk_cell BK329.out 1).trans rfl; have hcz204_2 : w199.cell? ⟨gb329, 2, none⟩ = some (.slice A1_2 l1_2.length c1_2) := (blk_cell BK329.out 2).trans rfl; have hfz204_0 := blk_frozen BK329.out 0; have hfz204_1 := blk_frozen BK329.out 1; have hfz204_2 := blk_frozen BK329.out 2; have hcz205_0 : w199.cell? ⟨gb330, 0, none⟩ = some (.int .i64 a2_0) := (blk_cell BK330.out 0).trans rfl; have hcz205_1 : w199.cell? ⟨gb330, 1, none⟩ = some (.int .i64 a2_1) := (blk_cell BK330.out 1).trans rfl; have hcz205_2 : w199.cell? ⟨gb330, 2, none⟩ = some (.slice A2_2 l2_2.length c2_2) := (blk_cell BK330.out 2).trans rfl; have hfz205_0 := blk_frozen BK330.out 0; have hfz205_1 := blk_frozen BK330.out 1; have hfz205_2 := blk_frozen BK330.out 2) | ((with_reducible refine gate_dst (N := 16) rfl ?_); (try (refine gate_guard (by rfl) ?_; dsimp only)); refine Kd.N_lit k24 _ 24 ?hg (N' := 16) ?hd (xs := ([(⟨a0_0, a0_1, l0_2⟩ : S24), (⟨a1_0, a1_1, l1_2⟩ : S24), (⟨a2_0, a2_1, l2_2⟩ : S24)] : List (S24))) (inner := [.int .i64 a0_0, .int .i64 a0_1, .slice A0_2 l0_2.length c0_2, .int .i64 a1_0, .int .i64 a1_1, .slice A1_2 l1_2.length c1_2, .int .i64 a2_0, .int .i64 a2_1, .slice A2_2 l2_2.length c2_2]) (ok := (fun k_ => ((P0_2_ k_ ∨ P1_2_ k_ ∨ P2_2_ k_) ∨ w.heap.size ≤ k_) ∧ k_ ≠ gb328 ∧ k_ ≠ gb329 ∧ k_ ≠ gb330)) (okp := (fun k_ => ((P0_2_ k_ ∨ P1_2_ k_ ∨ P2_2_ k_) ∨ w.heap.size ≤ k_) ∧ k_ ≠ gb328 ∧ k_ ≠ gb329 ∧ k_ ≠ gb330)) ?hr ?hp (fun _ hk => hk) ((show ∀ k_, w199.heap.size ≤ k_ → (fun k_ => ((P0_2_ k_ ∨ P1_2_ k_ ∨ P2_2_ k_) ∨ w.heap.size ≤ k_) ∧ k_ ≠ gb328 ∧ k_ ≠ gb329 ∧ k_ ≠ gb330) k_ from fun k_ hk => ⟨(.inr (Nat.le_trans (below_size HB.out) hk)), Kd.freshB (g := gb328) (o := .cells #[.int .i64 a0_0, .int .i64 a0_1, .slice A0_2 l0_2.length c0_2] 24 (0, 0)) (by exact BK328.out) k_ hk, Kd.freshB (g := gb329) (o := .cells #[.int .i64 a1_0, .int .i64 a1_1, .slice A1_2 l1_2.length c1_2] 24 (0, 0)) (by exact BK329.out) k_ hk, Kd.freshB (g := gb330) (o := .cells #[.int .i64 a2_0, .int .i64 a2_1, .slice A2_2 l2_2.length c2_2] 24 (0, 0)) (by exact BK330.out) k_ hk⟩) _ (Nat.le_refl _)) (Below.refl _ _) (Nat.le_refl _) (by simp) ?_; (case hd => rfl); (case hg => rfl); (case hr => first | (go_simp; done) | (go_simp; rfl)); (case hp => exact (Reps.c3 (show Kd.FK k24 _ _ (⟨a0_0, a0_1, l0_2⟩ : S24) [.int .i64 a0_0, .int .i64 a0_1, .slice A0_2 l0_2.length c0_2] from (k24_mkF _ _ (⟨a0_0, a0_1, l0_2⟩ : S24) (Kd.V_reads' (Kd.V_mono (ok' := (fun k_ => ((P0_2_ k_ ∨ P1_2_ k_ ∨ P2_2_ k_) ∨ w.heap.size ≤ k_) ∧ k_ ≠ gb328 ∧ k_ ≠ gb329 ∧ k_ ≠ gb330)) (HO0_2.out) (fun k_ hk => ⟨hk.1.1.1, ⟨hk.1.1.2, ⟨hk.1.2, hk.2⟩⟩⟩))).2.1 (Kd.V_F (Kd.V_mono (ok' := (fun k_ => ((P0_2_ k_ ∨ P1_2_ k_ ∨ P2_2_ k_) ∨ w.heap.size ≤ k_) ∧ k_ ≠ gb328 ∧ k_ ≠ gb329 ∧ k_ ≠ gb330)) (HO0_2.out) (fun k_ hk => ⟨hk.1.1.1, ⟨hk.1.1.2, ⟨hk.1.2, hk.2⟩⟩⟩))))) (Reps.c3 (show Kd.FK k24 _ _ (⟨a1_0, a1_1, l1_2⟩ : S24) [.int .i64 a1_0, .int .i64 a1_1, .slice A1_2 l1_2.length c1_2] from (k24_mkF _ _ (⟨a1_0, a1_1, l1_2⟩ : S24) (Kd.V_reads' (Kd.V_mono (ok' := (fun k_ => ((P0_2_ k_ ∨ P1_2_ k_ ∨ P2_2_ k_) ∨ w.heap.size ≤ k_) ∧ k_ ≠ gb328 ∧ k_ ≠ gb329 ∧ k_ ≠ gb330)) (HO1_2.out) (fun k_ hk => ⟨hk.1.1.1, ⟨hk.1.1.2, ⟨hk.1.2, hk.2⟩⟩⟩))).2.1 (Kd.V_F (Kd.V_mono (ok' := (fun k_ => ((P0_2_ k_ ∨ P1_2_ k_ ∨ P2_2_ k_) ∨ w.heap.size ≤ k_) ∧ k_ ≠ gb328 ∧ k_ ≠ gb329 ∧ k_ ≠ gb330)) (HO1_2.out) (fun k_ hk => ⟨hk.1.1.1, ⟨hk.1.1.2, ⟨hk.1.2, hk.2⟩⟩⟩))))) (Reps.c3 (show Kd.FK k24 _ _ (⟨a2_0, a2_1, l2_2⟩ : S24) [.int .i64 a2_0, .int .i64 a2_1, .slice A2_2 l2_2.length c2_2] from (k24_mkF _ _ (⟨a2_0, a2_1, l2_2⟩ : S24) (Kd.V_reads' (Kd.V_mono (ok' := (fun k_ => ((P0_2_ k_ ∨ P1_2_ k_ ∨ P2_2_ k_) ∨ w.heap.size ≤ k_) ∧ k_ ≠ gb328 ∧ k_ ≠ gb329 ∧ k_ ≠ gb330)) (HO2_2.out) (fun k_ hk => ⟨hk.1.1.1, ⟨hk.1.1.2, ⟨hk.1.2, hk.2⟩⟩⟩))).2.1 (Kd.V_F (Kd.V_mono (ok' := (fun k_ => ((P0_2_ k_ ∨ P1_2_ k_ ∨ P2_2_ k_) ∨ w.heap.size ≤ k_) ∧ k_ ≠ gb328 ∧ k_ ≠ gb329 ∧ k_ ≠ gb330)) (HO2_2.out) (fun k_ hk => ⟨hk.1.1.1, ⟨hk.1.1.2, ⟨hk.1.2, hk.2⟩⟩⟩))))) (Reps.none _ _))))); intro v332 w206 ho207 hb hg_ hnew_; clear hg_ hnew_; (first | rw [← Ny331.out] at ho207 | (simp only [Int.reduceToNat] at ho207; rw [← Ny331.out] at ho207)); have n0_ := Aside0.mk (Kd.V_elder' (by exact HO0_2.out) (Kd.N_base ho207) hb); have n1_ := Aside0.mk (Kd.V_elder' (by exact HO1_2.out) (Kd.N_base ho207) hb); have n2_ := Aside0.mk (Kd.V_elder' (by exact HO2_2.out) (Kd.N_base ho207) hb); have n3_ := Aside0.mk (Kd.N_lower ho207 (below_size HB.out)); have n4_ := Aside0.mk (blk_below (g := gb328) (o := .cells #[.int .i64 a0_0, .int .i64 a0_1, .slice A0_2 l0_2.length c0_2] 24 (0, 0)) (by exact BK328.out) hb); have n5_ := Aside0.mk (blk_below (g := gb329) (o := .cells #[.int .i64 a1_0, .int .i64 a1_1, .slice A1_2 l1_2.length c1_2] 24 (0, 0)) (by exact BK329.out) hb); have n6_ := Aside0.mk (blk_below (g := gb330) (o := .cells #[.int .i64 a2_0, .int .i64 a2_1, .slice A2_2 l2_2.length c2_2] 24 (0, 0)) (by exact BK330.out) hb); have n7_ := Aside0.mk (below_step HB.out hb); clear HO0_2; clear HO1_2; clear HO2_2; clear BK328; clear BK329; clear BK330; clear HB; have HO0_2 := n0_; have HO1_2 := n1_; have HO2_2 := n2_; have HO333 := n3_; have BK328 := n4_; have BK329 := n5_; have BK330 := n6_; have HB := n7_; clear n0_ n1_ n2_ n3_ n4_ n5_ n6_ n7_; clear hb ho207; obtain ⟨Ao208, co208, eo208⟩ := Kd.N_slice HO333.out; subst eo208) | ((with_reducible refine gate_callee (f := 10) rfl ?_); refine goesL_ (some 17) rfl rfl Tryd.func10 (by kernel_rfl) rfl #[.slice Ao208 y331.length co208] rfl (by (try simp only [List.map_toArray, List.map_cons, List.map_nil]); first | done | rfl | (simp only [List.length_drop, List.length_take]; rfl)) ?_; (with_reducible refine (ententelaw03_few.calls k _ _ y331 false _ ?side1 ?side2 A4.out).mono ?_); (case side1 => exact (Kd.N_reads' HO333.out).2.2); (case side2 => exact (Kd.N_reads' HO333.out).2.1); rintro e w' ⟨rfl, ⟨nd, rfl⟩⟩; refine ⟨_, rfl, ?_⟩) | ((with_reducible refine gate_callee (f := 11) rfl ?_); refine goesL_ (some 19) rfl rfl Tryd.func11 (by kernel_rfl) rfl #[] rfl (by (try simp only [List.map_toArray, List.map_cons, List.map_nil]); first | done | rfl | (simp only [List.length_drop, List.length_take]; rfl)) ?_; (with_reducible refine (ententelaw03_awake.calls k  t335 _ ?side1 A196.out).mono ?_); (case side1 => exact WH.below HWH_.out (by repeat (first | (with_reducible first | exact HB.out | apply below_alloc | apply pw_below_drewN | apply below_drew1 | refine below_set ?_ GE328.out | refine below_set ?_ GE329.out | refine below_set ?_ GE330.out) | exact HB.out))); rintro e w209 ⟨rfl, hb⟩; refine ⟨_, rfl, ?_⟩; have n0_ := Aside0.mk (Kd.V_below (by (with_reducible repeat (first | apply Kd.V_alloc | apply Kd.V_drewN | apply Kd.V_drew)); exact HO0_2.out) hb); have n1_ := Aside0.mk (Kd.V_below (by (with_reducible repeat (first | apply Kd.V_alloc | apply Kd.V_drewN | apply Kd.V_drew)); exact HO1_2.out) hb); have n2_ := Aside0.mk (Kd.V_below (by (with_reducible repeat (first | apply Kd.V_alloc | apply Kd.V_drewN | apply Kd.V_drew)); exact HO2_2.out) hb); have n3_ := Aside0.mk (blk_below (g := gb328) (o := .cells #[.int .i64 a0_0, .int .i64 a0_1, .slice A0_2 l0_2.length c0_2] 24 (0, 0)) (by (with_reducible repeat (first | refine blk_drewN ?_ _ | refine blk_drew ?_ | refine blk_alloc ?_ _)); exact BK328.out) hb); have n4_ := Aside0.mk (blk_below (g := gb329) (o := .cells #[.int .i64 a1_0, .int .i64 a1_1, .slice A1_2 l1_2.length c1_2] 24 (0, 0)) (by (with_reducible repeat (first | refine blk_drewN ?_ _ | refine blk_drew ?_ | refine blk_alloc ?_ _)); exact BK329.out) hb); have n5_ := Aside0.mk (blk_below (g := gb330) (o := .cells #[.int .i64 a2_0, .int .i64 a2_1, .slice A2_2 l2_2.length c2_2] 24 (0, 0)) (by (with_reducible repeat (first | refine blk_drewN ?_ _ | refine blk_drew ?_ | refine blk_alloc ?_ _)); exact BK330.out) hb); have n6_ := Aside0.mk (below_step (by repeat (first | (with_reducible first | exact HB.out | apply below_alloc | apply pw_below_drewN | apply below_drew1 | refine below_set ?_ GE328.out | refine below_set ?_ GE329.out | refine below_set ?_ GE330.out) | exact HB.out)) hb); clear HO0_2; clear HO1_2; clear HO2_2; clear BK328; clear BK329; clear BK330; clear HB; have HO0_2 := n0_; have HO1_2 := n1_; have HO2_2 := n2_; have BK328 := n3_; have BK329 := n4_; have BK330 := n5_; have HB := n6_; clear n0_ n1_ n2_ n3_ n4_ n5_ n6_; (try clear hb); (try clear hb2); (try clear hk); (try clear hi)))
  go_ret
  exact ⟨by first | rfl | (simp [errW_none, errW_some] <;> rfl) | (simp [*, errW_none, errW_some] <;> rfl), HB.out⟩

end Go.Proofs.YtnlljacklhgfgaaDoor.PI

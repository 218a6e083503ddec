/- The machine side of this seat's laws: plain functions, and proofs that the calls do what they say; written by a program of this session over the translation; no conditions beyond those typed. -/
import Derived.Test.YtnlljacklhgfgaaDoorPJx0
import Derived.Test.YtnlljacklhgfgaaDoorPJx1
import Derived.Test.YtnlljacklhgfgaaDoorPJx2
import Derived.Test.YtnlljacklhgfgaaDoorPJx3
import Derived.Test.YtnlljacklhgfgaaDoorPJx4
import Derived.Test.YtnlljacklhgfgaaDoorPJx5
import Derived.Test.YtnlljacklhgfgaaDoorPJx7
import Derived.Test.YtnlljacklhgfgaaDoorPJx8
import Derived.Test.YtnlljacklhgfgaaDoorPJx9
namespace Go.Proofs.YtnlljacklhgfgaaDoor.PI
open Go.RowKit Go.Proofs.YtnlljacklhgfgaaDoorW.PrintWords Go.Proofs.YtnlljacklhgfgaaDoorW.PrintLast Go.Proofs.YtnlljacklhgfgaaDoorW.PrintMore
attribute [local go_sem] max2_int min2_int max_two min_two max_three min_three max_four min_four   -- for this text's walks alone
set_option linter.unusedVariables false
set_option linter.unusedSimpArgs false

/-! ### ententelaw03_IdentPaths: function 9 -/
mutual
def ententelaw03_IdentPaths.j0 : Nat → Int → Int → List Int → Bool → Int → Int → List (S55) → Option (Bool)
 | 0, _, _, _, _, _, _, _ => none
 | k + 1, x1, x2, x7, x35, x402000, x402001, x402002 => if x35 = true then (none) else (ententelaw03_IdentPaths.l0 k x1 x2 x7 false 0 x402000 x402001 x402002)
def ententelaw03_IdentPaths.l0 : Nat → Int → Int → List Int → Bool → Int → Int → Int → List (S55) → Option (Bool)
 | 0, _, _, _, _, _, _, _, _ => none
 | k + 1, x1, x2, x7, x8, x9, x402000, x402001, x402002 => if x9 < (x7.length : Int) then (if x8 = true then (ententelaw03_IdentPaths.j2 k x1 x2 x7 true x9 x402000 x402001 x402002) else (if 0 ≤ x9 then (ententelaw03_IdentPaths.j2 k x1 x2 x7 ((rd x7 x9) == x2) x9 x402000 x402001 x402002) else (none))) else ((ident_Child.f x402000 x402001 x402002 x1 x2).bind fun bt414 => (if bt414.2.2.2 = 0 then ((ident_Parent.f bt414.1 bt414.2.1 bt414.2.2.1).bind fun bt423 => ((ident_Path.f k bt414.1 bt414.2.1 bt414.2.2.1).bind fun t431 => (if x8 = true then (none) else (if bt423.2.2.2.2 = true then (if bt423.2.2.2.1 = x1 then ((ident_Cmp.f k bt423.1 bt423.2.1 bt423.2.2.1 x402000 x402001 x402002).bind fun t434 => (if t434 = 0 then ((ident_Org.f k bt414.1 bt414.2.1 bt414.2.2.1).bind fun t435 => (if t435 = x2 then (if (t431.length : Int) = (wrap64 ((x7.length : Int) + 1)) then (if 0 ≤ (x7.length : Int) then (if (x7.length : Int) ≤ (t431.length : Int) then ((ententelaw03_numbers.f k (t431.take ((x7.length : Int) : Int).toNat) x7).bind fun t441 => (if t441 = true then ((ententelaw03_awake.f k).bind fun t442 => (some t442)) else (none))) else (none)) else (none)) else (none)) else (none))) else (none))) else (none)) else (none))))) else ((ententeref03_Same.f k bt414.1 bt414.2.1 bt414.2.2.1 0 0 ([] : List (S55))).bind fun t421 => (if t421 = true then ((ententelaw03_awake.f k).bind fun t422 => (some t422)) else (none)))))
def ententelaw03_IdentPaths.j2 : Nat → Int → Int → List Int → Bool → Int → Int → Int → List (S55) → Option (Bool)
 | 0, _, _, _, _, _, _, _, _ => none
 | k + 1, x1, x2, x7, x8, x9, x402000, x402001, x402002 => ententelaw03_IdentPaths.l1 k x1 x2 x7 x8 x9 0 x402000 x402001 x402002
def ententelaw03_IdentPaths.l1 : Nat → Int → Int → List Int → Bool → Int → Int → Int → Int → List (S55) → Option (Bool)
 | 0, _, _, _, _, _, _, _, _, _ => none
 | k + 1, x1, x2, x7, x8, x9, x10, x402000, x402001, x402002 => if x10 < x9 then (if 0 ≤ x9 then (if x9 < (x7.length : Int) then (if 0 ≤ x10 then (if x10 < (x7.length : Int) then (if (rd x7 x9) = (rd x7 x10) then (none) else (ententelaw03_IdentPaths.l1 k x1 x2 x7 x8 x9 (wrap64 (x10 + 1)) x402000 x402001 x402002)) else (none)) else (none)) else (none)) else (none)) else (ententelaw03_IdentPaths.l0 k x1 x2 x7 x8 (wrap64 (x9 + 1)) x402000 x402001 x402002)
end
def ententelaw03_IdentPaths.f (k : Nat) (a0_0 : Int) (a0_1 : Int) (l0_2 : List (S55)) (a1 : Int) (a2 : Int) : Option (Bool) := (ententelaw03_few.f k (([(⟨a0_0, a0_1, l0_2⟩ : S24)] : List (S24)))).bind fun t405 => (if t405 = true then ((ident_Path.f k a0_0 a0_1 l0_2).bind fun t407 => (if (t407.length : Int) > 5 then (ententelaw03_IdentPaths.j0 k a1 a2 t407 true a0_0 a0_1 l0_2) else ((ident_Check.f a0_0 a0_1 l0_2).bind fun t410 => (ententelaw03_IdentPaths.j0 k a1 a2 t407 ((decide ((t407.length : Int) > 0)) != (t410 == 0)) a0_0 a0_1 l0_2)))) else ((ententelaw03_awake.f k).bind fun t406 => (some t406)))
theorem ententelaw03_IdentPaths.mono_l : ∀ k, (∀ y0 y1 y2 y3 y4 y5 y6, LeO (ententelaw03_IdentPaths.j0 k y0 y1 y2 y3 y4 y5 y6) (ententelaw03_IdentPaths.j0 (k + 1) y0 y1 y2 y3 y4 y5 y6)) ∧ (∀ y0 y1 y2 y3 y4 y5 y6 y7, LeO (ententelaw03_IdentPaths.l0 k y0 y1 y2 y3 y4 y5 y6 y7) (ententelaw03_IdentPaths.l0 (k + 1) y0 y1 y2 y3 y4 y5 y6 y7)) ∧ (∀ y0 y1 y2 y3 y4 y5 y6 y7, LeO (ententelaw03_IdentPaths.j2 k y0 y1 y2 y3 y4 y5 y6 y7) (ententelaw03_IdentPaths.j2 (k + 1) y0 y1 y2 y3 y4 y5 y6 y7)) ∧ (∀ y0 y1 y2 y3 y4 y5 y6 y7 y8, LeO (ententelaw03_IdentPaths.l1 k y0 y1 y2 y3 y4 y5 y6 y7 y8) (ententelaw03_IdentPaths.l1 (k + 1) y0 y1 y2 y3 y4 y5 y6 y7 y8))
 | 0 => ⟨fun _ _ _ _ _ _ _ r h => by simp [ententelaw03_IdentPaths.j0] at h, fun _ _ _ _ _ _ _ _ r h => by simp [ententelaw03_IdentPaths.l0] at h, fun _ _ _ _ _ _ _ _ r h => by simp [ententelaw03_IdentPaths.j2] at h, fun _ _ _ _ _ _ _ _ _ r h => by simp [ententelaw03_IdentPaths.l1] at h⟩
 | k + 1 => by
  obtain ⟨ih0, ih1, ih2, ih3⟩ := ententelaw03_IdentPaths.mono_l k
  refine ⟨?_, ?_, ?_, ?_⟩
  ·intro y0 y1 y2 y3 y4 y5 y6
   unfold ententelaw03_IdentPaths.j0
   repeat' first
   | (with_reducible exact ih0 _ _ _ _ _ _ _)
   | (with_reducible exact ih1 _ _ _ _ _ _ _ _)
   | (with_reducible exact ih2 _ _ _ _ _ _ _ _)
   | (with_reducible exact ih3 _ _ _ _ _ _ _ _ _)
   | (with_reducible exact ententelaw03_awake.mono _)
   | (with_reducible exact ententelaw03_few.mono _ _)
   | (with_reducible exact ententelaw03_numbers.mono _ _ _)
   | (with_reducible exact ententeref03_Same.mono _ _ _ _ _ _ _)
   | (with_reducible exact ident_Cmp.mono _ _ _ _ _ _ _)
   | (with_reducible exact ident_Org.mono _ _ _ _)
   | (with_reducible exact ident_Path.mono _ _ _ _)
   | (with_reducible exact LeO.refl _)
   | (with_reducible exact LeO.none _)
   | (with_reducible refine LeO.ite ?_ ?_)
   | (with_reducible refine LeO.bind ?_ (fun _ => ?_))
   | exact ih0 _ _ _ _ _ _ _
   | exact ih1 _ _ _ _ _ _ _ _
   | exact ih2 _ _ _ _ _ _ _ _
   | exact ih3 _ _ _ _ _ _ _ _ _
   | exact ententelaw03_awake.mono _
   | exact ententelaw03_few.mono _ _
   | exact ententelaw03_numbers.mono _ _ _
   | exact ententeref03_Same.mono _ _ _ _ _ _ _
   | exact ident_Cmp.mono _ _ _ _ _ _ _
   | exact ident_Org.mono _ _ _ _
   | exact ident_Path.mono _ _ _ _
   | exact LeO.none _
   | refine LeO.ite ?_ ?_
   | refine LeO.bind ?_ (fun _ => ?_)
  ·intro y0 y1 y2 y3 y4 y5 y6 y7
   unfold ententelaw03_IdentPaths.l0
   repeat' first
   | (with_reducible exact ih0 _ _ _ _ _ _ _)
   | (with_reducible exact ih1 _ _ _ _ _ _ _ _)
   | (with_reducible exact ih2 _ _ _ _ _ _ _ _)
   | (with_reducible exact ih3 _ _ _ _ _ _ _ _ _)
   | (with_reducible exact ententelaw03_awake.mono _)
   | (with_reducible exact ententelaw03_few.mono _ _)
   | (with_reducible exact ententelaw03_numbers.mono _ _ _)
   | (with_reducible exact ententeref03_Same.mono _ _ _ _ _ _ _)
   | (with_reducible exact ident_Cmp.mono _ _ _ _ _ _ _)
   | (with_reducible exact ident_Org.mono _ _ _ _)
   | (with_reducible exact ident_Path.mono _ _ _ _)
   | (with_reducible exact LeO.refl _)
   | (with_reducible exact LeO.none _)
   | (with_reducible refine LeO.ite ?_ ?_)
   | (with_reducible refine LeO.bind ?_ (fun _ => ?_))
   | exact ih0 _ _ _ _ _ _ _
   | exact ih1 _ _ _ _ _ _ _ _
   | exact ih2 _ _ _ _ _ _ _ _
   | exact ih3 _ _ _ _ _ _ _ _ _
   | exact ententelaw03_awake.mono _
   | exact ententelaw03_few.mono _ _
   | exact ententelaw03_numbers.mono _ _ _
   | exact ententeref03_Same.mono _ _ _ _ _ _ _
   | exact ident_Cmp.mono _ _ _ _ _ _ _
   | exact ident_Org.mono _ _ _ _
   | exact ident_Path.mono _ _ _ _
   | exact LeO.none _
   | refine LeO.ite ?_ ?_
   | refine LeO.bind ?_ (fun _ => ?_)
  ·intro y0 y1 y2 y3 y4 y5 y6 y7
   unfold ententelaw03_IdentPaths.j2
   repeat' first
   | (with_reducible exact ih0 _ _ _ _ _ _ _)
   | (with_reducible exact ih1 _ _ _ _ _ _ _ _)
   | (with_reducible exact ih2 _ _ _ _ _ _ _ _)
   | (with_reducible exact ih3 _ _ _ _ _ _ _ _ _)
   | (with_reducible exact ententelaw03_awake.mono _)
   | (with_reducible exact ententelaw03_few.mono _ _)
   | (with_reducible exact ententelaw03_numbers.mono _ _ _)
   | (with_reducible exact ententeref03_Same.mono _ _ _ _ _ _ _)
   | (with_reducible exact ident_Cmp.mono _ _ _ _ _ _ _)
   | (with_reducible exact ident_Org.mono _ _ _ _)
   | (with_reducible exact ident_Path.mono _ _ _ _)
   | (with_reducible exact LeO.refl _)
   | (with_reducible exact LeO.none _)
   | (with_reducible refine LeO.ite ?_ ?_)
   | (with_reducible refine LeO.bind ?_ (fun _ => ?_))
   | exact ih0 _ _ _ _ _ _ _
   | exact ih1 _ _ _ _ _ _ _ _
   | exact ih2 _ _ _ _ _ _ _ _
   | exact ih3 _ _ _ _ _ _ _ _ _
   | exact ententelaw03_awake.mono _
   | exact ententelaw03_few.mono _ _
   | exact ententelaw03_numbers.mono _ _ _
   | exact ententeref03_Same.mono _ _ _ _ _ _ _
   | exact ident_Cmp.mono _ _ _ _ _ _ _
   | exact ident_Org.mono _ _ _ _
   | exact ident_Path.mono _ _ _ _
   | exact LeO.none _
   | refine LeO.ite ?_ ?_
   | refine LeO.bind ?_ (fun _ => ?_)
  ·intro y0 y1 y2 y3 y4 y5 y6 y7 y8
   unfold ententelaw03_IdentPaths.l1
   repeat' first
   | (with_reducible exact ih0 _ _ _ _ _ _ _)
   | (with_reducible exact ih1 _ _ _ _ _ _ _ _)
   | (with_reducible exact ih2 _ _ _ _ _ _ _ _)
   | (with_reducible exact ih3 _ _ _ _ _ _ _ _ _)
   | (with_reducible exact ententelaw03_awake.mono _)
   | (with_reducible exact ententelaw03_few.mono _ _)
   | (with_reducible exact ententelaw03_numbers.mono _ _ _)
   | (with_reducible exact ententeref03_Same.mono _ _ _ _ _ _ _)
   | (with_reducible exact ident_Cmp.mono _ _ _ _ _ _ _)
   | (with_reducible exact ident_Org.mono _ _ _ _)
   | (with_reducible exact ident_Path.mono _ _ _ _)
   | (with_reducible exact LeO.refl _)
   | (with_reducible exact LeO.none _)
   | (with_reducible refine LeO.ite ?_ ?_)
   | (with_reducible refine LeO.bind ?_ (fun _ => ?_))
   | exact ih0 _ _ _ _ _ _ _
   | exact ih1 _ _ _ _ _ _ _ _
   | exact ih2 _ _ _ _ _ _ _ _
   | exact ih3 _ _ _ _ _ _ _ _ _
   | exact ententelaw03_awake.mono _
   | exact ententelaw03_few.mono _ _
   | exact ententelaw03_numbers.mono _ _ _
   | exact ententeref03_Same.mono _ _ _ _ _ _ _
   | exact ident_Cmp.mono _ _ _ _ _ _ _
   | exact ident_Org.mono _ _ _ _
   | exact ident_Path.mono _ _ _ _
   | exact LeO.none _
   | refine LeO.ite ?_ ?_
   | refine LeO.bind ?_ (fun _ => ?_)
theorem ententelaw03_IdentPaths.mono : ∀ a0 a1 a2 a3 a4 k, LeO (ententelaw03_IdentPaths.f k a0 a1 a2 a3 a4) (ententelaw03_IdentPaths.f (k + 1) a0 a1 a2 a3 a4) := by
 intro a0 a1 a2 a3 a4 k
 obtain ⟨ih0, ih1, ih2, ih3⟩ := ententelaw03_IdentPaths.mono_l k
 unfold ententelaw03_IdentPaths.f
 repeat' first
   | (with_reducible exact ih0 _ _ _ _ _ _ _)
   | (with_reducible exact ih1 _ _ _ _ _ _ _ _)
   | (with_reducible exact ih2 _ _ _ _ _ _ _ _)
   | (with_reducible exact ih3 _ _ _ _ _ _ _ _ _)
   | (with_reducible exact ententelaw03_awake.mono _)
   | (with_reducible exact ententelaw03_few.mono _ _)
   | (with_reducible exact ententelaw03_numbers.mono _ _ _)
   | (with_reducible exact ententeref03_Same.mono _ _ _ _ _ _ _)
   | (with_reducible exact ident_Cmp.mono _ _ _ _ _ _ _)
   | (with_reducible exact ident_Org.mono _ _ _ _)
   | (with_reducible exact ident_Path.mono _ _ _ _)
   | (with_reducible exact LeO.refl _)
   | (with_reducible exact LeO.none _)
   | (with_reducible refine LeO.ite ?_ ?_)
   | (with_reducible refine LeO.bind ?_ (fun _ => ?_))
   | exact ih0 _ _ _ _ _ _ _
   | exact ih1 _ _ _ _ _ _ _ _
   | exact ih2 _ _ _ _ _ _ _ _
   | exact ih3 _ _ _ _ _ _ _ _ _
   | exact ententelaw03_awake.mono _
   | exact ententelaw03_few.mono _ _
   | exact ententelaw03_numbers.mono _ _ _
   | exact ententeref03_Same.mono _ _ _ _ _ _ _
   | exact ident_Cmp.mono _ _ _ _ _ _ _
   | exact ident_Org.mono _ _ _ _
   | exact ident_Path.mono _ _ _ _
   | exact LeO.none _
   | refine LeO.ite ?_ ?_
   | refine LeO.bind ?_ (fun _ => ?_)
set_option maxHeartbeats 8000000 in
set_option maxRecDepth 100000 in
theorem ententelaw03_IdentPaths.calls (k : Nat) (a0_0 : Int) (a0_1 : Int) (P0_2_ : Nat → Prop) (A0_2 : Option Addr) (c0_2 : Nat) (l0_2 : List (S55)) (a1 : Int) (a2 : Int) (r : Bool) (w : World) (hs0_2 : Kd.V k55 55 w w.heap.size (fun k_ => P0_2_ k_) (.slice A0_2 l0_2.length c0_2) l0_2) (hw_ : WH w) (h : ententelaw03_IdentPaths.f k a0_0 a0_1 l0_2 a1 a2 = some r) :
  Calls Tryd.prog 9 #[.agg #[.int .i64 a0_0, .int .i64 a0_1, .slice A0_2 l0_2.length c0_2], .int .i64 a1, .int .i64 a2] w fun e w' => e = .returned (.bool r) ∧ Below w.heap.size w w' := by
 have hu24 := Tryd.underlying24
 have HO0_2 := Aside0.mk (show Kd.V k55 55 w w.heap.size (fun k_ => (P0_2_ k_ ∨ w.heap.size ≤ k_)) (.slice A0_2 l0_2.length c0_2) l0_2 from Kd.V_mono hs0_2 (fun k_ hk => .inl hk))
 have HWH_ := Aside0.mk hw_
 clear hw_
 have HB := Aside0.mk (Below.refl w.heap.size w)
 have H : ((ententelaw03_few.f k (([(⟨a0_0, a0_1, l0_2⟩ : S24)] : List (S24)))).bind fun t405 => (if t405 = true then ((ident_Path.f k a0_0 a0_1 l0_2).bind fun t407 => (if (t407.length : Int) > 5 then (ententelaw03_IdentPaths.j0 k a1 a2 t407 true a0_0 a0_1 l0_2) else ((ident_Check.f a0_0 a0_1 l0_2).bind fun t410 => (ententelaw03_IdentPaths.j0 k a1 a2 t407 ((decide ((t407.length : Int) > 0)) != (t410 == 0)) a0_0 a0_1 l0_2)))) else ((ententelaw03_awake.f k).bind fun t406 => (some t406)))) = some r := h
 clear h
 obtain ⟨y402, hy402⟩ : ∃ y_ : List (S24), y_ = (([(⟨a0_0, a0_1, l0_2⟩ : S24)] : List (S24))) := ⟨_, rfl⟩
 replace H : ((ententelaw03_few.f k y402).bind fun t405 => (if t405 = true then ((ident_Path.f k a0_0 a0_1 l0_2).bind fun t407 => (if (t407.length : Int) > 5 then (ententelaw03_IdentPaths.j0 k a1 a2 t407 true a0_0 a0_1 l0_2) else ((ident_Check.f a0_0 a0_1 l0_2).bind fun t410 => (ententelaw03_IdentPaths.j0 k a1 a2 t407 ((decide ((t407.length : Int) > 0)) != (t410 == 0)) a0_0 a0_1 l0_2)))) else ((ententelaw03_awake.f k).bind fun t406 => (some t406)))) = some r := by first | (rw [hy402]; with_reducible exact H) | (have H2_ := (Option.bind_some _ _).symm.trans H; rw [hy402]; with_reducible exact H2_) | (have H2_ := (Option.bind_some _ _).symm.trans H; with_reducible exact H2_) | with_reducible exact H | (rw [hy402]; exact H) | exact H
 have Ny402 := Aside0.mk hy402
 clear hy402
 replace H := Option.bind_eq_some_iff.mp H
 obtain ⟨t405, A40, H⟩ := H
 replace H : (if t405 = true then ((ident_Path.f k a0_0 a0_1 l0_2).bind fun t407 => (if (t407.length : Int) > 5 then (ententelaw03_IdentPaths.j0 k a1 a2 t407 true a0_0 a0_1 l0_2) else ((ident_Check.f a0_0 a0_1 l0_2).bind fun t410 => (ententelaw03_IdentPaths.j0 k a1 a2 t407 ((decide ((t407.length : Int) > 0)) != (t410 == 0)) a0_0 a0_1 l0_2)))) else ((ententelaw03_awake.f k).bind fun t406 => (some t406))) = some r := H
 have A4 := Aside0.mk A40
 clear A40
 by_cases c5 : t405 = true
 ·subst c5
  have H1 : ((ident_Path.f k a0_0 a0_1 l0_2).bind fun t407 => (if (t407.length : Int) > 5 then (ententelaw03_IdentPaths.j0 k a1 a2 t407 true a0_0 a0_1 l0_2) else ((ident_Check.f a0_0 a0_1 l0_2).bind fun t410 => (ententelaw03_IdentPaths.j0 k a1 a2 t407 ((decide ((t407.length : Int) > 0)) != (t410 == 0)) a0_0 a0_1 l0_2)))) = some r := by rw [if_pos rfl] at H; exact H
  clear H
  have H := H1
  clear H1
  replace H := Option.bind_eq_some_iff.mp H
  obtain ⟨t407, A60, H⟩ := H
  replace H : (if (t407.length : Int) > 5 then (ententelaw03_IdentPaths.j0 k a1 a2 t407 true a0_0 a0_1 l0_2) else ((ident_Check.f a0_0 a0_1 l0_2).bind fun t410 => (ententelaw03_IdentPaths.j0 k a1 a2 t407 ((decide ((t407.length : Int) > 0)) != (t410 == 0)) a0_0 a0_1 l0_2))) = some r := H
  have A6 := Aside0.mk A60
  clear A60
  have HC7 := Aside0.mk H
  clear H
  go_enter Tryd.func9, Tryd.ntmps9
  go_upto_region 4 with (first | ((with_reducible refine gate_dst (N := 3) rfl ?_); (try (refine gate_guard (by rfl) ?_; dsimp only)); refine box_event ?hg (N := 3) ?hd (cs := #[.int .i64 a0_0, .int .i64 a0_1, .slice A0_2 l0_2.length c0_2]) (t := 24) ?hr ?_; (case hd => rfl); (case hg => rfl); (case hr => first | (go_simp; done) | (go_simp; rfl)); intro gb401 hg w8 hbox hb; have n0_ := Aside0.mk (Kd.V_below (Kd.V_elderB (by exact HO0_2.out) gb401 (Nat.le_of_eq hg.symm)) hb); have n1_ := Aside0.mk (below_step HB.out hb); have n2_ := Aside0.mk (hbox); have n3_ := Aside0.mk ((by rw [hg]; exact (below_size HB.out) : w.heap.size ≤ gb401)); have n4_ := Aside0.mk ((by rw [hg]; exact (below_size HB.out) : w.heap.size ≤ gb401)); clear HO0_2; clear HB; have HO0_2 := n0_; have HB := n1_; have BK401 := n2_; have GW401 := n3_; have GE401 := n4_; clear n0_ n1_ n2_ n3_ n4_; clear hb hbox hg; have hcz9_0 : w8.cell? ⟨gb401, 0, none⟩ = some (.int .i64 a0_0) := (blk_cell BK401.out 0).trans rfl; have hcz9_1 : w8.cell? ⟨gb401, 1, none⟩ = some (.int .i64 a0_1) := (blk_cell BK401.out 1).trans rfl; have hcz9_2 : w8.cell? ⟨gb401, 2, none⟩ = some (.slice A0_2 l0_2.length c0_2) := (blk_cell BK401.out 2).trans rfl; have hfz9_0 := blk_frozen BK401.out 0; have hfz9_1 := blk_frozen BK401.out 1; have hfz9_2 := blk_frozen BK401.out 2) | ((with_reducible refine gate_dst (N := 18) rfl ?_); (try (refine gate_guard (by rfl) ?_; dsimp only)); refine Kd.N_lit k24 _ 24 ?hg (N' := 18) ?hd (xs := ([(⟨a0_0, a0_1, l0_2⟩ : S24)] : List (S24))) (inner := [.int .i64 a0_0, .int .i64 a0_1, .slice A0_2 l0_2.length c0_2]) (ok := (fun k_ => (P0_2_ k_ ∨ w.heap.size ≤ k_) ∧ k_ ≠ gb401)) (okp := (fun k_ => (P0_2_ k_ ∨ w.heap.size ≤ k_) ∧ k_ ≠ gb401)) ?hr ?hp (fun _ hk => hk) ((show ∀ k_, w8.heap.size ≤ k_ → (fun k_ => (P0_2_ k_ ∨ w.heap.size ≤ k_) ∧ k_ ≠ gb401) k_ from fun k_ hk => ⟨(.inr (Nat.le_trans (below_size HB.out) hk)), Kd.freshB (g := gb401) (o := .cells #[.int .i64 a0_0, .int .i64 a0_1, .slice A0_2 l0_2.length c0_2] 24 (0, 0)) (by exact BK401.out) k_ hk⟩) _ (Nat.le_refl _)) (Below.refl _ _) (Nat.le_refl _) (by simp) ?_; (case hd => rfl); (case hg => rfl); (case hr => first | (go_simp; done) | (go_simp; rfl)); (case hp => exact (Reps.c3 (show Kd.FK k24 _ _ (⟨a0_0, a0_1, l0_2⟩ : S24) [.int .i64 a0_0, .int .i64 a0_1, .slice A0_2 l0_2.length c0_2] from (k24_mkF _ _ (⟨a0_0, a0_1, l0_2⟩ : S24) (Kd.V_reads' (Kd.V_mono (ok' := (fun k_ => (P0_2_ k_ ∨ w.heap.size ≤ k_) ∧ k_ ≠ gb401)) (HO0_2.out) (fun k_ hk => ⟨hk.1, hk.2⟩))).2.1 (Kd.V_F (Kd.V_mono (ok' := (fun k_ => (P0_2_ k_ ∨ w.heap.size ≤ k_) ∧ k_ ≠ gb401)) (HO0_2.out) (fun k_ hk => ⟨hk.1, hk.2⟩))))) (Reps.none _ _))); intro v403 w10 ho11 hb hg_ hnew_; clear hg_ hnew_; (first | rw [← Ny402.out] at ho11 | (simp only [Int.reduceToNat] at ho11; rw [← Ny402.out] at ho11)); have n0_ := Aside0.mk (Kd.V_elder' (by exact HO0_2.out) (Kd.N_base ho11) hb); have n1_ := Aside0.mk (Kd.N_lower ho11 (below_size HB.out)); have n2_ := Aside0.mk (blk_below (g := gb401) (o := .cells #[.int .i64 a0_0, .int .i64 a0_1, .slice A0_2 l0_2.length c0_2] 24 (0, 0)) (by exact BK401.out) hb); have n3_ := Aside0.mk (below_step HB.out hb); clear HO0_2; clear BK401; clear HB; have HO0_2 := n0_; have HO404 := n1_; have BK401 := n2_; have HB := n3_; clear n0_ n1_ n2_ n3_; clear hb ho11; obtain ⟨Ao12, co12, eo12⟩ := Kd.N_slice HO404.out; subst eo12) | (go_at_call 10; (with_reducible refine (ententelaw03_few.calls k _ _ y402 true _ ?side1 ?side2 A4.out).mono ?_); (case side1 => exact (Kd.N_reads' HO404.out).2.2); (case side2 => exact (Kd.N_reads' HO404.out).2.1); rintro e w' ⟨rfl, ⟨nd, rfl⟩⟩; (try first | exact ⟨rfl, _, World.drewN_drewN _ _ _⟩ | exact ⟨rfl, _, Eq.trans (World.drewN_drewN _ _ _) (congrArg (World.drewN _) (Nat.add_assoc _ _ _))⟩); have hcz13_0 : w10.cell? ⟨gb401, 0, none⟩ = some (.int .i64 a0_0) := (blk_cell BK401.out 0).trans rfl; have hcz13_1 : w10.cell? ⟨gb401, 1, none⟩ = some (.int .i64 a0_1) := (blk_cell BK401.out 1).trans rfl; have hcz13_2 : w10.cell? ⟨gb401, 2, none⟩ = some (.slice A0_2 l0_2.length c0_2) := (blk_cell BK401.out 2).trans rfl; have hfz13_0 := blk_frozen BK401.out 0; have hfz13_1 := blk_frozen BK401.out 1; have hfz13_2 := blk_frozen BK401.out 2) | (go_at_call 30; (with_reducible refine (ident_Path.calls k a0_0 a0_1 _ _ l0_2 t407 _ ?side1 ?side2 A6.out).mono ?_); (case side1 => exact (Kd.V_reads' HO0_2.out).2.2); (case side2 => exact (Kd.V_reads' HO0_2.out).2.1); rintro e w14 ⟨v408, rfl, ho0, hb⟩; have n0_ := Aside0.mk (Kd.V_elder' (by (with_reducible repeat (first | apply Kd.V_alloc | apply Kd.V_drewN | apply Kd.V_drew)); exact HO0_2.out) (Kd.R_base ho0) hb); have n1_ := Aside0.mk (Kd.R_lower (Kd.R_newM (M := fun k_ => (w.heap.size ≤ k_)) ho0 (below_size (by repeat (first | (with_reducible first | exact HB.out | apply below_alloc | apply pw_below_drewN | apply below_drew1 | refine below_set ?_ GE401.out) | exact HB.out))) (fun k_ h_ => h_)) (below_size (by repeat (first | (with_reducible first | exact HB.out | apply below_alloc | apply pw_below_drewN | apply below_drew1 | refine below_set ?_ GE401.out) | exact HB.out)))); have n2_ := Aside0.mk (blk_below (g := gb401) (o := .cells #[.int .i64 a0_0, .int .i64 a0_1, .slice A0_2 l0_2.length c0_2] 24 (0, 0)) (by (with_reducible repeat (first | refine blk_drewN ?_ _ | refine blk_drew ?_ | refine blk_alloc ?_ _)); exact BK401.out) hb); have n3_ := Aside0.mk (below_step (by repeat (first | (with_reducible first | exact HB.out | apply below_alloc | apply pw_below_drewN | apply below_drew1 | refine below_set ?_ GE401.out) | exact HB.out)) hb); clear HO0_2; clear BK401; clear HB; have HO0_2 := n0_; have HO409 := n1_; have BK401 := n2_; have HB := n3_; clear n0_ n1_ n2_ n3_; (try clear hb); (try clear hb2); (try clear hk); (try clear hi); (try clear ho0)))
  repeat (go_quiet (fail); go_upto_region 4 with (fail))
  (try simp only [Act.put, List.setIfInBounds_toArray, List.set_cons_zero, List.set_cons_succ])
  go_cut [35] (fun v35 wc => ∃ (kq : Nat) (x35_6 : Bool), v35 = .bool x35_6 ∧ Aside0 (ententelaw03_IdentPaths.j0 kq a1 a2 t407 x35_6 a0_0 a0_1 l0_2 = some r) ∧ Aside0 (kq ≤ k) ∧ Aside0 (Kd.R (Kd.int .i64) 3 wc w.heap.size (fun k_ => (w.heap.size ≤ k_)) v408 t407) ∧ Aside0 (Kd.V k55 55 wc w.heap.size (fun k_ => (P0_2_ k_ ∨ w.heap.size ≤ k_) ∧ some k_ ≠ (v408 : Value).ownBlock ∧ k_ ≠ gb401) (.slice A0_2 l0_2.length c0_2) l0_2) ∧ Aside0 (wc.heap[gb401]? = some (.cells #[.int .i64 a0_0, .int .i64 a0_1, (.slice A0_2 l0_2.length c0_2)] 24 (0, 0))) ∧ Aside0 (Below w.heap.size w wc))
  case first =>
   have H := HC7.out
   clear HC7
   by_cases c15 : (t407.length : Int) > 5
   ·rw [if_pos c15] at H
    have c15b0 : decide (5 < (t407.length : Int)) = true := decide_eq_true c15
    have c15b1 : decide (5 < t407.length) = true := decide_eq_true (by omega)
    clear c15
    (first | rw [c15b0] | (simp only [i64_w, i32_w]; rw [c15b0]) | skip)
    have H' := Aside0.mk H
    clear H
    obtain ⟨Ao16, co16, eo16⟩ := Kd.R_slice HO409.out
    subst eo16
    go_wp2
    repeat (go_quiet (fail); try go_wp2)
    go_meet
    case rel => exact ⟨_, (true), (by first | rfl | (simp; done) | (simp [*]; done) | (simp; exact (by decide : ∀ x y : Bool, (x == y) = (!x != y)) _ _)), H', ⟨by first | omega | exact Nat.le_refl _⟩, ⟨by exact Kd.R_mono HO409.out (fun _ hk => hk.1)⟩, ⟨by first | exact HO0_2.out | exact Kd.V_mono HO0_2.out (fun _ hk => ⟨hk.1.1.1, ⟨hk.2, hk.1.1.2⟩⟩)⟩, ⟨by exact BK401.out⟩, ⟨HB.out⟩⟩
   ·rw [if_neg c15] at H
    have c15b0 : decide (5 < (t407.length : Int)) = false := decide_eq_false c15
    have c15b1 : decide (5 < t407.length) = false := decide_eq_false (by omega)
    clear c15
    (first | rw [c15b0] | (simp only [i64_w, i32_w]; rw [c15b0]) | skip)
    replace H := Option.bind_eq_some_iff.mp H
    obtain ⟨t410, A170, H⟩ := H
    replace H : (ententelaw03_IdentPaths.j0 k a1 a2 t407 ((decide ((t407.length : Int) > 0)) != (t410 == 0)) a0_0 a0_1 l0_2) = some r := H
    have A17 := Aside0.mk A170
    clear A170
    have H' := Aside0.mk H
    clear H
    obtain ⟨Ao18, co18, eo18⟩ := Kd.R_slice HO409.out
    subst eo18
    have hcz19_0 : w14.cell? ⟨gb401, 0, none⟩ = some (.int .i64 a0_0) := (blk_cell BK401.out 0).trans rfl
    have hcz19_1 : w14.cell? ⟨gb401, 1, none⟩ = some (.int .i64 a0_1) := (blk_cell BK401.out 1).trans rfl
    have hcz19_2 : w14.cell? ⟨gb401, 2, none⟩ = some (.slice A0_2 l0_2.length c0_2) := (blk_cell BK401.out 2).trans rfl
    have hfz19_0 := blk_frozen BK401.out 0
    have hfz19_1 := blk_frozen BK401.out 1
    have hfz19_2 := blk_frozen BK401.out 2
    go_wp2_with (first | (go_at_call 25; (with_reducible refine (ident_Check.calls a0_0 a0_1 _ _ l0_2 t410 _ ?side1 ?side2 A17.out).mono ?_); (case side1 => exact (Kd.V_reads' HO0_2.out).2.2); (case side2 => exact (Kd.V_reads' HO0_2.out).2.1); rintro e w20 ⟨rfl, hb⟩; have n0_ := Aside0.mk (Kd.V_below (by exact HO0_2.out) hb); have n1_ := Aside0.mk (Kd.R_below (by exact HO409.out) hb); have n2_ := Aside0.mk (blk_below (g := gb401) (o := .cells #[.int .i64 a0_0, .int .i64 a0_1, .slice A0_2 l0_2.length c0_2] 24 (0, 0)) (by exact BK401.out) hb); have n3_ := Aside0.mk (below_step HB.out hb); clear HO0_2; clear HO409; clear BK401; clear HB; have HO0_2 := n0_; have HO409 := n1_; have BK401 := n2_; have HB := n3_; clear n0_ n1_ n2_ n3_; (try clear hb); (try clear hb2); (try clear hk); (try clear hi)))
    repeat (go_quiet (fail); try go_wp2_with (fail))
    go_meet
    case rel => exact ⟨_, (((decide ((t407.length : Int) > 0)) != (t410 == 0))), (by first | rfl | (simp; done) | (simp [*]; done) | (simp; exact (by decide : ∀ x y : Bool, (x == y) = (!x != y)) _ _)), H', ⟨by first | omega | exact Nat.le_refl _⟩, ⟨by exact Kd.R_mono HO409.out (fun _ hk => hk.1)⟩, ⟨by first | exact HO0_2.out | exact Kd.V_mono HO0_2.out (fun _ hk => ⟨hk.1.1.1, ⟨hk.2, hk.1.1.2⟩⟩)⟩, ⟨by exact BK401.out⟩, ⟨HB.out⟩⟩
  case rest =>
   clear HC7
   try clear c1
   try clear p2
   try clear c3
   try clear c5
   try clear c9
   try clear c15
   try clear c15b0
   try clear c15b1
   try clear hcz13_0
   try clear hcz13_1
   try clear hcz13_2
   try clear hcz19_0
   try clear hcz19_1
   try clear hcz19_2
   try clear hcz9_0
   try clear hcz9_1
   try clear hcz9_2
   try clear hfz13_0
   try clear hfz13_1
   try clear hfz13_2
   try clear hfz19_0
   try clear hfz19_1
   try clear hfz19_2
   try clear hfz9_0
   try clear hfz9_1
   try clear hfz9_2
   obtain ⟨kq, x35_6, rfl, HA, HJ6, HO_7, HO_402002, BK401, HB⟩ := hcut
   cases kq with
   | zero => exact absurd HA.out (by simp [ententelaw03_IdentPaths.j0])
   | succ kj6 =>
    have H := HA.out
    clear HA
    simp only [ententelaw03_IdentPaths.j0] at H
    by_cases c21 : x35_6 = true
    ·subst c21
     have H1 : (none) = some r := by rw [if_pos rfl] at H; exact H
     clear H
     have H := H1
     clear H1
     exact absurd H (by simp)
    ·replace c21 := Bool.eq_false_iff.mpr c21
     subst c21
     have H1 : (ententelaw03_IdentPaths.l0 kj6 a1 a2 t407 false 0 a0_0 a0_1 l0_2) = some r := by rw [if_neg (show ¬ (false = true) by decide)] at H; exact H
     clear H
     have H := H1
     clear H1
     have H' := Aside0.mk H
     clear H
     go_wp2
     repeat (go_quiet (fail); try go_wp2)
     go_loopg [8, 9] kj6 (fun kq v8 v9 w' => ∃ (x8_2 : Bool) (x9_2 : Int), v8 = .bool x8_2 ∧ v9 = .int .i64 x9_2 ∧ Aside0 (ententelaw03_IdentPaths.l0 kq a1 a2 t407 x8_2 x9_2 a0_0 a0_1 l0_2 = some r) ∧ Aside0 (kq ≤ kj6) ∧ Aside0 (Kd.R (Kd.int .i64) 3 w' w.heap.size (fun k_ => (w.heap.size ≤ k_)) v408 t407) ∧ Aside0 (Kd.V k55 55 w' w.heap.size (fun k_ => (P0_2_ k_ ∨ w.heap.size ≤ k_) ∧ some k_ ≠ (v408 : Value).ownBlock ∧ k_ ≠ gb401) (.slice A0_2 l0_2.length c0_2) l0_2) ∧ Aside0 (w'.heap[gb401]? = some (.cells #[.int .i64 a0_0, .int .i64 a0_1, (.slice A0_2 l0_2.length c0_2)] 24 (0, 0))) ∧ Aside0 (Below w.heap.size w w'))
     case atStart => exact ⟨(false), (0), (by first | rfl | (simp; done) | (simp [*]; done)), (by first | rfl | (simp; done) | (simp [*]; done) | (simp; exact (by decide : ∀ x y : Bool, (x == y) = (!x != y)) _ _)), H', ⟨Nat.le_refl _⟩, ⟨by exact HO_7.out⟩, ⟨by exact HO_402002.out⟩, ⟨by exact BK401.out⟩, ⟨HB.out⟩⟩
     case round =>
      clear H'
      try clear c1
      try clear c2
      try clear p2
      try clear c3
      try clear c5
      try clear c9
      try clear c15
      try clear c15b0
      try clear c15b1
      try clear c21
      try clear hcz13_0
      try clear hcz13_1
      try clear hcz13_2
      try clear hcz19_0
      try clear hcz19_1
      try clear hcz19_2
      try clear hcz9_0
      try clear hcz9_1
      try clear hcz9_2
      try clear hfz13_0
      try clear hfz13_1
      try clear hfz13_2
      try clear hfz19_0
      try clear hfz19_1
      try clear hfz19_2
      try clear hfz9_0
      try clear hfz9_1
      try clear hfz9_2
      try clear p2
      obtain ⟨x8_2, x9_2, rfl, rfl, HA, HK2, HO_7, HO_402002, BK401, HB⟩ := hrel
      cases gk with
      | zero => exact absurd HA.out (by simp [ententelaw03_IdentPaths.l0])
      | succ k2 =>
       have H := HA.out
       clear HA
       simp only [ententelaw03_IdentPaths.l0] at H
       by_cases c22 : x9_2 < (t407.length : Int)
       ·rw [if_pos c22] at H
        have c22b0 : decide (x9_2 < (t407.length : Int)) = true := decide_eq_true c22
        clear c22
        have HC23 := Aside0.mk H
        clear H
        obtain ⟨Ao24, co24, eo24⟩ := Kd.R_slice HO_7.out
        subst eo24
        go_upto_region 10 with (fail)
        repeat (go_quiet (fail); go_upto_region 10 with (fail))
        go_cut [8] (fun v8 wc => ∃ (kq : Nat) (x8_22 : Bool), v8 = .bool x8_22 ∧ Aside0 (ententelaw03_IdentPaths.j2 kq a1 a2 t407 x8_22 x9_2 a0_0 a0_1 l0_2 = some r) ∧ Aside0 (kq ≤ k2) ∧ Aside0 (Kd.R (Kd.int .i64) 3 wc w.heap.size (fun k_ => (w.heap.size ≤ k_)) (.slice Ao24 t407.length co24) t407) ∧ Aside0 (Kd.V k55 55 wc w.heap.size (fun k_ => (P0_2_ k_ ∨ w.heap.size ≤ k_) ∧ some k_ ≠ ((.slice Ao24 t407.length co24) : Value).ownBlock ∧ k_ ≠ gb401) (.slice A0_2 l0_2.length c0_2) l0_2) ∧ Aside0 (wc.heap[gb401]? = some (.cells #[.int .i64 a0_0, .int .i64 a0_1, (.slice A0_2 l0_2.length c0_2)] 24 (0, 0))) ∧ Aside0 (Below w.heap.size w wc))
        case first =>
         have H := HC23.out
         clear HC23
         by_cases c25 : x8_2 = true
         ·subst c25
          have H1 : (ententelaw03_IdentPaths.j2 k2 a1 a2 t407 true x9_2 a0_0 a0_1 l0_2) = some r := by rw [if_pos rfl] at H; exact H
          clear H
          have H := H1
          clear H1
          have H' := Aside0.mk H
          clear H
          go_wp2
          repeat (go_quiet (fail); try go_wp2)
          go_meet
          case rel => exact ⟨_, (true), (by first | rfl | (simp; done) | (simp [*]; done) | (simp; exact (by decide : ∀ x y : Bool, (x == y) = (!x != y)) _ _)), H', ⟨by have := HJ6.out; have := HK2.out; first | omega | exact Nat.le_refl _⟩, ⟨by exact HO_7.out⟩, ⟨by exact HO_402002.out⟩, ⟨by exact BK401.out⟩, ⟨HB.out⟩⟩
         ·replace c25 := Bool.eq_false_iff.mpr c25
          subst c25
          have H1 : (if 0 ≤ x9_2 then (ententelaw03_IdentPaths.j2 k2 a1 a2 t407 ((rd t407 x9_2) == a2) x9_2 a0_0 a0_1 l0_2) else (none)) = some r := by rw [if_neg (show ¬ (false = true) by decide)] at H; exact H
          clear H
          have H := H1
          clear H1
          by_cases c26 : 0 ≤ x9_2
          ·rw [if_pos c26] at H
           have c26b0 : decide (0 ≤ x9_2) = true := decide_eq_true c26
           clear c26
           (first | rw [c26b0] | (simp only [i64_w, i32_w]; rw [c26b0]) | skip)
           have H' := Aside0.mk H
           clear H
           have p411 : 0 ≤ (x9_2 : Int) := of_decide_eq_true (by first | (with_reducible assumption) | assumption)
           have q411 : x9_2 < (t407.length : Int) := of_decide_eq_true (by first | (with_reducible assumption) | assumption)
           obtain ⟨ad411, e411, hx411_0⟩ := Kd.at_int (Kd.R_reads' HO_7.out).2.2 x9_2 p411 q411
           cases e411
           replace p411 := eq_true p411
           replace q411 := eq_true q411
           go_wp2
           repeat (go_quiet (fail); try go_wp2)
           go_meet
           case rel => exact ⟨_, (((rd t407 x9_2) == a2)), (by first | rfl | (simp; done) | (simp [*]; done) | (simp; exact (by decide : ∀ x y : Bool, (x == y) = (!x != y)) _ _)), H', ⟨by have := HJ6.out; have := HK2.out; first | omega | exact Nat.le_refl _⟩, ⟨by exact HO_7.out⟩, ⟨by exact HO_402002.out⟩, ⟨by exact BK401.out⟩, ⟨HB.out⟩⟩
          ·rw [if_neg c26] at H
           exact absurd H (by simp)
        case rest =>
         clear HC23
         try clear c1
         try clear c2
         try clear p2
         try clear c3
         try clear p4
         try clear q4
         try clear hx4
         try clear c5
         try clear c9
         try clear c15
         try clear c15b0
         try clear c15b1
         try clear c21
         try clear c22
         try clear c22b0
         try clear c25
         try clear c26
         try clear c26b0
         try clear hcz13_0
         try clear hcz13_1
         try clear hcz13_2
         try clear hcz19_0
         try clear hcz19_1
         try clear hcz19_2
         try clear hcz9_0
         try clear hcz9_1
         try clear hcz9_2
         try clear hfz13_0
         try clear hfz13_1
         try clear hfz13_2
         try clear hfz19_0
         try clear hfz19_1
         try clear hfz19_2
         try clear hfz9_0
         try clear hfz9_1
         try clear hfz9_2
         try clear hx411_0
         try clear p2
         try clear p411
         try clear q411
         obtain ⟨kq, x8_22, rfl, HA, HJ22, HO_7, HO_402002, BK401, HB⟩ := hcut
         cases kq with
         | zero => exact absurd HA.out (by simp [ententelaw03_IdentPaths.j2])
         | succ kj22 =>
          have H := HA.out
          clear HA
          simp only [ententelaw03_IdentPaths.j2] at H
          have H' := Aside0.mk H
          clear H
          go_wp2
          repeat (go_quiet (fail); try go_wp2)
          go_loopg [10] kj22 (fun kq v10 w' => ∃ (x10_4 : Int), v10 = .int .i64 x10_4 ∧ Aside0 (ententelaw03_IdentPaths.l1 kq a1 a2 t407 x8_22 x9_2 x10_4 a0_0 a0_1 l0_2 = some r) ∧ Aside0 (kq ≤ kj22) ∧ Aside0 (Kd.R (Kd.int .i64) 3 w' w.heap.size (fun k_ => (w.heap.size ≤ k_)) (.slice Ao24 t407.length co24) t407) ∧ Aside0 (Kd.V k55 55 w' w.heap.size (fun k_ => (P0_2_ k_ ∨ w.heap.size ≤ k_) ∧ some k_ ≠ ((.slice Ao24 t407.length co24) : Value).ownBlock ∧ k_ ≠ gb401) (.slice A0_2 l0_2.length c0_2) l0_2) ∧ Aside0 (w'.heap[gb401]? = some (.cells #[.int .i64 a0_0, .int .i64 a0_1, (.slice A0_2 l0_2.length c0_2)] 24 (0, 0))) ∧ Aside0 (Below w.heap.size w w'))
          case atStart => exact ⟨(0), (by first | rfl | (simp; done) | (simp [*]; done) | (simp; exact (by decide : ∀ x y : Bool, (x == y) = (!x != y)) _ _)), H', ⟨Nat.le_refl _⟩, ⟨by exact HO_7.out⟩, ⟨by exact HO_402002.out⟩, ⟨by exact BK401.out⟩, ⟨HB.out⟩⟩
          case round =>
           clear H'
           try clear c1
           try clear c2
           try clear p2
           try clear c3
           try clear p4
           try clear q4
           try clear hx4
           try clear c5
           try clear c9
           try clear c15
           try clear c15b0
           try clear c15b1
           try clear c21
           try clear c22
           try clear c22b0
           try clear c25
           try clear c26
           try clear c26b0
           try clear hcz13_0
           try clear hcz13_1
           try clear hcz13_2
           try clear hcz19_0
           try clear hcz19_1
           try clear hcz19_2
           try clear hcz9_0
           try clear hcz9_1
           try clear hcz9_2
           try clear hfz13_0
           try clear hfz13_1
           try clear hfz13_2
           try clear hfz19_0
           try clear hfz19_1
           try clear hfz19_2
           try clear hfz9_0
           try clear hfz9_1
           try clear hfz9_2
           try clear hx411_0
           try clear p2
           try clear p4
           try clear p411
           try clear q4
           try clear q411
           obtain ⟨x10_4, rfl, HA, HK4, HO_7, HO_402002, BK401, HB⟩ := hrel
           cases gk with
           | zero => exact absurd HA.out (by simp [ententelaw03_IdentPaths.l1])
           | succ k4 =>
            have H := HA.out
            clear HA
            simp only [ententelaw03_IdentPaths.l1] at H
            by_cases c27 : x10_4 < x9_2
            ·rw [if_pos c27] at H
             have c27b0 : decide (x10_4 < x9_2) = true := decide_eq_true c27
             clear c27
             by_cases c28 : 0 ≤ x9_2
             ·rw [if_pos c28] at H
              have c28b0 : decide (0 ≤ x9_2) = true := decide_eq_true c28
              clear c28
              by_cases c29 : x9_2 < (t407.length : Int)
              ·rw [if_pos c29] at H
               have c29b0 : decide (x9_2 < (t407.length : Int)) = true := decide_eq_true c29
               clear c29
               by_cases c30 : 0 ≤ x10_4
               ·rw [if_pos c30] at H
                have c30b0 : decide (0 ≤ x10_4) = true := decide_eq_true c30
                clear c30
                by_cases c31 : x10_4 < (t407.length : Int)
                ·rw [if_pos c31] at H
                 have c31b0 : decide (x10_4 < (t407.length : Int)) = true := decide_eq_true c31
                 clear c31
                 by_cases c32 : (rd t407 x9_2) = (rd t407 x10_4)
                 ·rw [if_pos c32] at H
                  exact absurd H (by simp)
                 ·rw [if_neg c32] at H
                  have c32b0 : ((rd t407 x9_2) == (rd t407 x10_4)) = false := beq_eq_false_iff_ne.mpr c32
                  have c32b1 : ((rd t407 x9_2) != (rd t407 x10_4)) = true := bne_iff_ne.mpr c32
                  have H' := Aside0.mk H
                  clear H
                  have p412 : 0 ≤ (x9_2 : Int) := of_decide_eq_true (by first | (with_reducible assumption) | assumption)
                  have q412 : x9_2 < (t407.length : Int) := of_decide_eq_true (by first | (with_reducible assumption) | assumption)
                  obtain ⟨ad412, e412, hx412_0⟩ := Kd.at_int (Kd.R_reads' HO_7.out).2.2 x9_2 p412 q412
                  cases e412
                  replace p412 := eq_true p412
                  replace q412 := eq_true q412
                  have p413 : 0 ≤ (x10_4 : Int) := of_decide_eq_true (by first | (with_reducible assumption) | assumption)
                  have q413 : x10_4 < (t407.length : Int) := of_decide_eq_true (by first | (with_reducible assumption) | assumption)
                  obtain ⟨ad413, e413, hx413_0⟩ := Kd.at_int (Kd.R_reads' HO_7.out).2.2 x10_4 p413 q413
                  obtain rfl : ad412 = ad413 := (by injection e413)
                  replace p413 := eq_true p413
                  replace q413 := eq_true q413
                  go_wp2
                  repeat (go_quiet (fail); try go_wp2)
                  go_roundg k4
                  case measure => have := HJ6.out; have := HK2.out; have := HJ22.out; have := HK4.out; omega
                  case rel => exact ⟨(wrap64 (x10_4 + 1)), (by first | rfl | (simp; done) | (simp [*]; done) | (simp; exact (by decide : ∀ x y : Bool, (x == y) = (!x != y)) _ _)), H', ⟨by have := HJ6.out; have := HK2.out; have := HJ22.out; have := HK4.out; omega⟩, ⟨by (with_reducible repeat (first | apply Kd.R_alloc | apply Kd.R_drewN | apply Kd.R_drew)); exact HO_7.out⟩, ⟨by (with_reducible repeat (first | apply Kd.V_alloc | apply Kd.V_drewN | apply Kd.V_drew)); exact HO_402002.out⟩, ⟨by (with_reducible repeat (first | refine blk_drewN ?_ _ | refine blk_drew ?_ | refine blk_alloc ?_ _)); exact BK401.out⟩, ⟨by repeat (first | (with_reducible first | exact HB.out | apply below_alloc | apply pw_below_drewN | apply below_drew1 | refine below_set ?_ GE401.out) | exact HB.out)⟩⟩
                ·rw [if_neg c31] at H
                 exact absurd H (by simp)
               ·rw [if_neg c30] at H
                exact absurd H (by simp)
              ·rw [if_neg c29] at H
               exact absurd H (by simp)
             ·rw [if_neg c28] at H
              exact absurd H (by simp)
            ·rw [if_neg c27] at H
             have c27b0 : decide (x10_4 < x9_2) = false := decide_eq_false c27
             clear c27
             have H' := Aside0.mk H
             clear H
             go_wp2
             repeat (go_quiet (fail); try go_wp2)
             go_roundg k4
             case measure => have := HJ6.out; have := HK2.out; have := HJ22.out; have := HK4.out; omega
             case rel => exact ⟨(x8_22), (wrap64 (x9_2 + 1)), (by first | rfl | (simp; done) | (simp [*]; done)), (by first | rfl | (simp; done) | (simp [*]; done) | (simp; exact (by decide : ∀ x y : Bool, (x == y) = (!x != y)) _ _)), H', ⟨by have := HJ6.out; have := HK2.out; have := HJ22.out; have := HK4.out; omega⟩, ⟨by exact HO_7.out⟩, ⟨by exact HO_402002.out⟩, ⟨by exact BK401.out⟩, ⟨HB.out⟩⟩
       ·rw [if_neg c22] at H
        have c22b0 : decide (x9_2 < (t407.length : Int)) = false := decide_eq_false c22
        clear c22
        replace H := Option.bind_eq_some_iff.mp H
        obtain ⟨⟨t414, t415, t416, t419⟩, A330, H⟩ := H
        replace H : (if t419 = 0 then ((ident_Parent.f t414 t415 t416).bind fun bt423 => ((ident_Path.f k2 t414 t415 t416).bind fun t431 => (if x8_2 = true then (none) else (if bt423.2.2.2.2 = true then (if bt423.2.2.2.1 = a1 then ((ident_Cmp.f k2 bt423.1 bt423.2.1 bt423.2.2.1 a0_0 a0_1 l0_2).bind fun t434 => (if t434 = 0 then ((ident_Org.f k2 t414 t415 t416).bind fun t435 => (if t435 = a2 then (if (t431.length : Int) = (wrap64 ((t407.length : Int) + 1)) then (if 0 ≤ (t407.length : Int) then (if (t407.length : Int) ≤ (t431.length : Int) then ((ententelaw03_numbers.f k2 (t431.take ((t407.length : Int) : Int).toNat) t407).bind fun t441 => (if t441 = true then ((ententelaw03_awake.f k2).bind fun t442 => (some t442)) else (none))) else (none)) else (none)) else (none)) else (none))) else (none))) else (none)) else (none))))) else ((ententeref03_Same.f k2 t414 t415 t416 0 0 ([] : List (S55))).bind fun t421 => (if t421 = true then ((ententelaw03_awake.f k2).bind fun t422 => (some t422)) else (none)))) = some r := H
        have A33 := Aside0.mk A330
        clear A330
        by_cases c34 : t419 = 0
        ·rw [if_pos c34] at H
         have c34b0 : (t419 == 0) = true := beq_iff_eq.mpr c34
         have c34b1 : (t419 != 0) = false := bne_eq_false_iff_eq.mpr c34
         clear c34
         replace H := Option.bind_eq_some_iff.mp H
         obtain ⟨⟨t423, t424, t425, t428, t429⟩, A350, H⟩ := H
         replace H : ((ident_Path.f k2 t414 t415 t416).bind fun t431 => (if x8_2 = true then (none) else (if t429 = true then (if t428 = a1 then ((ident_Cmp.f k2 t423 t424 t425 a0_0 a0_1 l0_2).bind fun t434 => (if t434 = 0 then ((ident_Org.f k2 t414 t415 t416).bind fun t435 => (if t435 = a2 then (if (t431.length : Int) = (wrap64 ((t407.length : Int) + 1)) then (if 0 ≤ (t407.length : Int) then (if (t407.length : Int) ≤ (t431.length : Int) then ((ententelaw03_numbers.f k2 (t431.take ((t407.length : Int) : Int).toNat) t407).bind fun t441 => (if t441 = true then ((ententelaw03_awake.f k2).bind fun t442 => (some t442)) else (none))) else (none)) else (none)) else (none)) else (none))) else (none))) else (none)) else (none)))) = some r := H
         have A35 := Aside0.mk A350
         clear A350
         replace H := Option.bind_eq_some_iff.mp H
         obtain ⟨t431, A360, H⟩ := H
         replace H : (if x8_2 = true then (none) else (if t429 = true then (if t428 = a1 then ((ident_Cmp.f k2 t423 t424 t425 a0_0 a0_1 l0_2).bind fun t434 => (if t434 = 0 then ((ident_Org.f k2 t414 t415 t416).bind fun t435 => (if t435 = a2 then (if (t431.length : Int) = (wrap64 ((t407.length : Int) + 1)) then (if 0 ≤ (t407.length : Int) then (if (t407.length : Int) ≤ (t431.length : Int) then ((ententelaw03_numbers.f k2 (t431.take ((t407.length : Int) : Int).toNat) t407).bind fun t441 => (if t441 = true then ((ententelaw03_awake.f k2).bind fun t442 => (some t442)) else (none))) else (none)) else (none)) else (none)) else (none))) else (none))) else (none)) else (none))) = some r := H
         have A36 := Aside0.mk A360
         clear A360
         by_cases c37 : x8_2 = true
         ·subst c37
          have H1 : (none) = some r := by rw [if_pos rfl] at H; exact H
          clear H
          have H := H1
          clear H1
          exact absurd H (by simp)
         ·replace c37 := Bool.eq_false_iff.mpr c37
          subst c37
          have H1 : (if t429 = true then (if t428 = a1 then ((ident_Cmp.f k2 t423 t424 t425 a0_0 a0_1 l0_2).bind fun t434 => (if t434 = 0 then ((ident_Org.f k2 t414 t415 t416).bind fun t435 => (if t435 = a2 then (if (t431.length : Int) = (wrap64 ((t407.length : Int) + 1)) then (if 0 ≤ (t407.length : Int) then (if (t407.length : Int) ≤ (t431.length : Int) then ((ententelaw03_numbers.f k2 (t431.take ((t407.length : Int) : Int).toNat) t407).bind fun t441 => (if t441 = true then ((ententelaw03_awake.f k2).bind fun t442 => (some t442)) else (none))) else (none)) else (none)) else (none)) else (none))) else (none))) else (none)) else (none)) = some r := by rw [if_neg (show ¬ (false = true) by decide)] at H; exact H
          clear H
          have H := H1
          clear H1
          by_cases c38 : t429 = true
          ·subst c38
           have H1 : (if t428 = a1 then ((ident_Cmp.f k2 t423 t424 t425 a0_0 a0_1 l0_2).bind fun t434 => (if t434 = 0 then ((ident_Org.f k2 t414 t415 t416).bind fun t435 => (if t435 = a2 then (if (t431.length : Int) = (wrap64 ((t407.length : Int) + 1)) then (if 0 ≤ (t407.length : Int) then (if (t407.length : Int) ≤ (t431.length : Int) then ((ententelaw03_numbers.f k2 (t431.take ((t407.length : Int) : Int).toNat) t407).bind fun t441 => (if t441 = true then ((ententelaw03_awake.f k2).bind fun t442 => (some t442)) else (none))) else (none)) else (none)) else (none)) else (none))) else (none))) else (none)) = some r := by rw [if_pos rfl] at H; exact H
           clear H
           have H := H1
           clear H1
           by_cases c39 : t428 = a1
           ·rw [if_pos c39] at H
            have c39b0 : (t428 == a1) = true := beq_iff_eq.mpr c39
            have c39b1 : (t428 != a1) = false := bne_eq_false_iff_eq.mpr c39
            clear c39
            replace H := Option.bind_eq_some_iff.mp H
            obtain ⟨t434, A400, H⟩ := H
            replace H : (if t434 = 0 then ((ident_Org.f k2 t414 t415 t416).bind fun t435 => (if t435 = a2 then (if (t431.length : Int) = (wrap64 ((t407.length : Int) + 1)) then (if 0 ≤ (t407.length : Int) then (if (t407.length : Int) ≤ (t431.length : Int) then ((ententelaw03_numbers.f k2 (t431.take ((t407.length : Int) : Int).toNat) t407).bind fun t441 => (if t441 = true then ((ententelaw03_awake.f k2).bind fun t442 => (some t442)) else (none))) else (none)) else (none)) else (none)) else (none))) else (none)) = some r := H
            have A40 := Aside0.mk A400
            clear A400
            by_cases c41 : t434 = 0
            ·rw [if_pos c41] at H
             have c41b0 : (t434 == 0) = true := beq_iff_eq.mpr c41
             have c41b1 : (t434 != 0) = false := bne_eq_false_iff_eq.mpr c41
             clear c41
             replace H := Option.bind_eq_some_iff.mp H
             obtain ⟨t435, A420, H⟩ := H
             replace H : (if t435 = a2 then (if (t431.length : Int) = (wrap64 ((t407.length : Int) + 1)) then (if 0 ≤ (t407.length : Int) then (if (t407.length : Int) ≤ (t431.length : Int) then ((ententelaw03_numbers.f k2 (t431.take ((t407.length : Int) : Int).toNat) t407).bind fun t441 => (if t441 = true then ((ententelaw03_awake.f k2).bind fun t442 => (some t442)) else (none))) else (none)) else (none)) else (none)) else (none)) = some r := H
             have A42 := Aside0.mk A420
             clear A420
             by_cases c43 : t435 = a2
             ·rw [if_pos c43] at H
              have c43b0 : (t435 == a2) = true := beq_iff_eq.mpr c43
              have c43b1 : (t435 != a2) = false := bne_eq_false_iff_eq.mpr c43
              clear c43
              by_cases c44 : (t431.length : Int) = (wrap64 ((t407.length : Int) + 1))
              ·rw [if_pos c44] at H
               have c44b0 : ((t431.length : Int) == (wrap64 ((t407.length : Int) + 1))) = true := beq_iff_eq.mpr c44
               have c44b1 : ((t431.length : Int) != (wrap64 ((t407.length : Int) + 1))) = false := bne_eq_false_iff_eq.mpr c44
               clear c44
               by_cases c45 : 0 ≤ (t407.length : Int)
               ·rw [if_pos c45] at H
                have c45b0 := eq_true c45
                have c45b1 : decide (0 ≤ (t407.length : Int)) = true := decide_eq_true c45
                clear c45
                by_cases c46 : (t407.length : Int) ≤ (t431.length : Int)
                ·rw [if_pos c46] at H
                 have c46b0 := eq_true c46
                 have c46b1 : decide ((t407.length : Int) ≤ (t431.length : Int)) = true := decide_eq_true c46
                 clear c46
                 obtain ⟨y436, hy436⟩ : ∃ y_ : List Int, y_ = (t431.take ((t407.length : Int) : Int).toNat) := ⟨_, rfl⟩
                 replace H : ((ententelaw03_numbers.f k2 y436 t407).bind fun t441 => (if t441 = true then ((ententelaw03_awake.f k2).bind fun t442 => (some t442)) else (none))) = some r := by first | (rw [hy436]; with_reducible exact H) | (have H2_ := (Option.bind_some _ _).symm.trans H; rw [hy436]; with_reducible exact H2_) | (have H2_ := (Option.bind_some _ _).symm.trans H; with_reducible exact H2_) | with_reducible exact H | (rw [hy436]; exact H) | exact H
                 have Ny436 := Aside0.mk hy436
                 clear hy436
                 replace H := Option.bind_eq_some_iff.mp H
                 obtain ⟨t441, A470, H⟩ := H
                 replace H : (if t441 = true then ((ententelaw03_awake.f k2).bind fun t442 => (some t442)) else (none)) = some r := H
                 have A47 := Aside0.mk A470
                 clear A470
                 by_cases c48 : t441 = true
                 ·subst c48
                  have H1 : ((ententelaw03_awake.f k2).bind fun t442 => (some t442)) = some r := by rw [if_pos rfl] at H; exact H
                  clear H
                  have H := H1
                  clear H1
                  replace H := Option.bind_eq_some_iff.mp H
                  obtain ⟨t442, A490, H⟩ := H
                  replace H : (some t442) = some r := H
                  have A49 := Aside0.mk A490
                  clear A490
                  obtain rfl := Option.some.inj H
                  obtain ⟨Ao50, co50, eo50⟩ := Kd.R_slice HO_7.out
                  subst eo50
                  have hcz51_0 : wr.cell? ⟨gb401, 0, none⟩ = some (.int .i64 a0_0) := (blk_cell BK401.out 0).trans rfl
                  have hcz51_1 : wr.cell? ⟨gb401, 1, none⟩ = some (.int .i64 a0_1) := (blk_cell BK401.out 1).trans rfl
                  have hcz51_2 : wr.cell? ⟨gb401, 2, none⟩ = some (.slice A0_2 l0_2.length c0_2) := (blk_cell BK401.out 2).trans rfl
                  have hfz51_0 := blk_frozen BK401.out 0
                  have hfz51_1 := blk_frozen BK401.out 1
                  have hfz51_2 := blk_frozen BK401.out 2
                  go_wp2_with (first | (go_at_call 14; (with_reducible refine (ident_Child.calls a0_0 a0_1 _ _ l0_2 a1 a2 t414 t415 t416 t419 _ ?side1 ?side2 A33.out).mono ?_); (case side1 => exact (Kd.V_reads' HO_402002.out).2.2); (case side2 => exact (Kd.V_reads' HO_402002.out).2.1); rintro e w52 ⟨v417, rfl, ho0, hb⟩; have n0_ := Aside0.mk (Kd.R_below (by exact HO_7.out) hb); have n1_ := Aside0.mk (Kd.V_elder' (by exact HO_402002.out) (Kd.R_base ho0) hb); have n2_ := Aside0.mk (Kd.R_lower (Kd.R_newM (M := fun k_ => (w.heap.size ≤ k_)) ho0 (below_size HB.out) (fun k_ h_ => h_)) (below_size HB.out)); have n3_ := Aside0.mk (blk_below (g := gb401) (o := .cells #[.int .i64 a0_0, .int .i64 a0_1, .slice A0_2 l0_2.length c0_2] 24 (0, 0)) (by exact BK401.out) hb); have n4_ := Aside0.mk (below_step HB.out hb); clear HO_7; clear HO_402002; clear BK401; clear HB; have HO_7 := n0_; have HO_402002 := n1_; have HO418 := n2_; have BK401 := n3_; have HB := n4_; clear n0_ n1_ n2_ n3_ n4_; (try clear hb); (try clear hb2); (try clear hk); (try clear hi); (try clear ho0)) | ((with_reducible refine gate_dst (N := 11) rfl ?_); (try (refine gate_guard (by rfl) ?_; dsimp only)); refine box_event ?hg (N := 11) ?hd (cs := #[.int .i64 0, .int .i64 0, .slice none 0 0]) (t := 24) ?hr ?_; (case hd => rfl); (case hg => rfl); (case hr => first | (go_simp; done) | (go_simp; rfl)); intro gb420 hg w53 hbox hb; have n0_ := Aside0.mk (Kd.R_below (by exact HO_7.out) hb); have n1_ := Aside0.mk (Kd.V_below (Kd.V_elderB (by exact HO_402002.out) gb420 (Nat.le_of_eq hg.symm)) hb); have n2_ := Aside0.mk (Kd.R_below (by exact HO418.out) hb); have n3_ := Aside0.mk (blk_below (g := gb401) (o := .cells #[.int .i64 a0_0, .int .i64 a0_1, .slice A0_2 l0_2.length c0_2] 24 (0, 0)) (by exact BK401.out) hb); have n4_ := Aside0.mk (below_step HB.out hb); have n5_ := Aside0.mk (hbox); have n6_ := Aside0.mk ((by rw [hg]; exact (below_size HB.out) : w.heap.size ≤ gb420)); have n7_ := Aside0.mk ((by rw [hg]; exact (below_size HB.out) : w.heap.size ≤ gb420)); have n8_ := Aside0.mk ((by rw [hg]; exact Nat.ne_of_lt (blk_lt (g := gb401) (o := .cells #[.int .i64 a0_0, .int .i64 a0_1, .slice A0_2 l0_2.length c0_2] 24 (0, 0)) (by exact BK401.out)) : gb401 ≠ gb420)); have n9_ := Aside0.mk ((by rw [hg]; exact Nat.ne_of_gt (blk_lt (g := gb401) (o := .cells #[.int .i64 a0_0, .int .i64 a0_1, .slice A0_2 l0_2.length c0_2] 24 (0, 0)) (by exact BK401.out)) : gb420 ≠ gb401)); clear HO_7; clear HO_402002; clear HO418; clear BK401; clear HB; have HO_7 := n0_; have HO_402002 := n1_; have HO418 := n2_; have BK401 := n3_; have HB := n4_; have BK420 := n5_; have GW420 := n6_; have GE420 := n7_; have NB401_420 := n8_; have NB420_401 := n9_; clear n0_ n1_ n2_ n3_ n4_ n5_ n6_ n7_ n8_ n9_; clear hb hbox hg; have hnb54 := NB420_401.out; have hnc54 := NB401_420.out; have hcz55_0 : w53.cell? ⟨gb420, 0, none⟩ = some (.int .i64 0) := (blk_cell BK420.out 0).trans rfl; have hcz55_1 : w53.cell? ⟨gb420, 1, none⟩ = some (.int .i64 0) := (blk_cell BK420.out 1).trans rfl; have hcz55_2 : w53.cell? ⟨gb420, 2, none⟩ = some (.slice none 0 0) := (blk_cell BK420.out 2).trans rfl; have hfz55_0 := blk_frozen BK420.out 0; have hfz55_1 := blk_frozen BK420.out 1; have hfz55_2 := blk_frozen BK420.out 2; obtain ⟨Ao56, co56, eo56⟩ := Kd.R_slice HO418.out; subst eo56) | (go_at_call 12; (with_reducible refine (ident_Parent.calls t414 t415 _ _ t416 t423 t424 t425 t428 true _ ?side1 ?side2 A35.out).mono ?_); (case side1 => refine (Kd.R_reads' (e := 55) (base := w.heap.size) (ok := fun k_ => ((w.heap.size ≤ k_) ∧ True)) (n := t416.length) (c := co56) ?_).2.2; exact (by exact (Kd.R_mono (Kd.R_far (p := ⟨gb420, 2, none⟩) (Kd.R_far (p := ⟨gb420, 1, none⟩) (Kd.R_far (p := ⟨gb420, 0, none⟩) (Kd.R_types HO418.out BK420.out (by decide)) (fun _ hk => hk.2) (.int .i64 t414)) (fun _ hk => hk.2) (.int .i64 t415)) (fun _ hk => hk.2) (.slice Ao56 t416.length co56)) (fun _ h_ => h_.1)))); (case side2 => exact (Kd.R_reads' HO418.out).2.1); rintro e w57 ⟨v426, rfl, ho0, hb⟩; have n0_ := Aside0.mk (Kd.R_below (by exact (Kd.R_mono (Kd.R_far (p := ⟨gb420, 2, none⟩) (Kd.R_far (p := ⟨gb420, 1, none⟩) (Kd.R_far (p := ⟨gb420, 0, none⟩) (Kd.R_types HO_7.out BK420.out (by decide)) (fun _ hk => hk.2) (.int .i64 t414)) (fun _ hk => hk.2) (.int .i64 t415)) (fun _ hk => hk.2) (.slice Ao56 t416.length co56)) (fun _ h_ => h_.1))) hb); have n1_ := Aside0.mk (Kd.V_elder' (by exact (Kd.V_mono (Kd.V_far (p := ⟨gb420, 2, none⟩) (Kd.V_far (p := ⟨gb420, 1, none⟩) (Kd.V_far (p := ⟨gb420, 0, none⟩) (Kd.V_mono HO_402002.out (fun k_ hk => (⟨hk, hk.2⟩ : _ ∧ k_ ≠ gb420))) (fun _ hk => hk.2) (.int .i64 t414)) (fun _ hk => hk.2) (.int .i64 t415)) (fun _ hk => hk.2) (.slice Ao56 t416.length co56)) (fun _ h_ => h_.1))) (Kd.R_base ho0) hb); have n2_ := Aside0.mk (Kd.R_elder' (by exact (Kd.R_mono (Kd.R_far (p := ⟨gb420, 2, none⟩) (Kd.R_far (p := ⟨gb420, 1, none⟩) (Kd.R_far (p := ⟨gb420, 0, none⟩) (Kd.R_types HO418.out BK420.out (by decide)) (fun _ hk => hk.2) (.int .i64 t414)) (fun _ hk => hk.2) (.int .i64 t415)) (fun _ hk => hk.2) (.slice Ao56 t416.length co56)) (fun _ h_ => h_.1))) (Kd.R_base ho0) hb); have n3_ := Aside0.mk (Kd.R_lower (Kd.R_new' (Kd.R_newM (M := fun k_ => (w.heap.size ≤ k_)) ho0 (below_size (by repeat (first | (with_reducible first | exact HB.out | apply below_alloc | apply pw_below_drewN | apply below_drew1 | refine below_set ?_ GE401.out | refine below_set ?_ GE420.out) | exact HB.out))) (fun k_ h_ => h_)) (Kd.R_lt (by exact (Kd.R_mono (Kd.R_far (p := ⟨gb420, 2, none⟩) (Kd.R_far (p := ⟨gb420, 1, none⟩) (Kd.R_far (p := ⟨gb420, 0, none⟩) (Kd.R_types HO418.out BK420.out (by decide)) (fun _ hk => hk.2) (.int .i64 t414)) (fun _ hk => hk.2) (.int .i64 t415)) (fun _ hk => hk.2) (.slice Ao56 t416.length co56)) (fun _ h_ => h_.1))))) (below_size (by repeat (first | (with_reducible first | exact HB.out | apply below_alloc | apply pw_below_drewN | apply below_drew1 | refine below_set ?_ GE401.out | refine below_set ?_ GE420.out) | exact HB.out)))); have n4_ := Aside0.mk (blk_below (g := gb401) (o := .cells #[.int .i64 a0_0, .int .i64 a0_1, .slice A0_2 l0_2.length c0_2] 24 (0, 0)) (by refine blk_far ?_ NB401_420.out _; refine blk_far ?_ NB401_420.out _; refine blk_far ?_ NB401_420.out _; exact BK401.out) hb); have n5_ := Aside0.mk (blk_below (g := gb420) (o := .cells #[.int .i64 t414, .int .i64 t415, .slice Ao56 t416.length co56] 24 (0, 0)) (by refine blk_put (cs := #[.int .i64 t414, .int .i64 t415, .slice none 0 0]) ?_ 2 _ rfl; refine blk_put (cs := #[.int .i64 t414, .int .i64 0, .slice none 0 0]) ?_ 1 _ rfl; refine blk_put (cs := #[.int .i64 0, .int .i64 0, .slice none 0 0]) ?_ 0 _ rfl; exact BK420.out) hb); have n6_ := Aside0.mk (below_step (by repeat (first | (with_reducible first | exact HB.out | apply below_alloc | apply pw_below_drewN | apply below_drew1 | refine below_set ?_ GE401.out | refine below_set ?_ GE420.out) | exact HB.out)) hb); clear HO_7; clear HO_402002; clear HO418; clear BK401; clear BK420; clear HB; have HO_7 := n0_; have HO_402002 := n1_; have HO418 := n2_; have HO427 := n3_; have BK401 := n4_; have BK420 := n5_; have HB := n6_; clear n0_ n1_ n2_ n3_ n4_ n5_ n6_; (try clear hb); (try clear hb2); (try clear hk); (try clear hi); (try clear ho0)) | ((with_reducible refine gate_dst (N := 13) rfl ?_); (try (refine gate_guard (by rfl) ?_; dsimp only)); refine box_event ?hg (N := 13) ?hd (cs := #[.int .i64 0, .int .i64 0, .slice none 0 0]) (t := 24) ?hr ?_; (case hd => rfl); (case hg => rfl); (case hr => first | (go_simp; done) | (go_simp; rfl)); intro gb430 hg w58 hbox hb; have n0_ := Aside0.mk (Kd.R_below (by exact HO_7.out) hb); have n1_ := Aside0.mk (Kd.V_below (Kd.V_elderB (by exact HO_402002.out) gb430 (Nat.le_of_eq hg.symm)) hb); have n2_ := Aside0.mk (Kd.R_below (by exact HO418.out) hb); have n3_ := Aside0.mk (Kd.R_below (by exact HO427.out) hb); have n4_ := Aside0.mk (blk_below (g := gb401) (o := .cells #[.int .i64 a0_0, .int .i64 a0_1, .slice A0_2 l0_2.length c0_2] 24 (0, 0)) (by exact BK401.out) hb); have n5_ := Aside0.mk (blk_below (g := gb420) (o := .cells #[.int .i64 t414, .int .i64 t415, .slice Ao56 t416.length co56] 24 (0, 0)) (by exact BK420.out) hb); have n6_ := Aside0.mk (below_step HB.out hb); have n7_ := Aside0.mk (hbox); have n8_ := Aside0.mk ((by rw [hg]; exact (below_size HB.out) : w.heap.size ≤ gb430)); have n9_ := Aside0.mk ((by rw [hg]; exact (below_size HB.out) : w.heap.size ≤ gb430)); have n10_ := Aside0.mk ((by rw [hg]; exact Nat.ne_of_lt (blk_lt (g := gb401) (o := .cells #[.int .i64 a0_0, .int .i64 a0_1, .slice A0_2 l0_2.length c0_2] 24 (0, 0)) (by exact BK401.out)) : gb401 ≠ gb430)); have n11_ := Aside0.mk ((by rw [hg]; exact Nat.ne_of_gt (blk_lt (g := gb401) (o := .cells #[.int .i64 a0_0, .int .i64 a0_1, .slice A0_2 l0_2.length c0_2] 24 (0, 0)) (by exact BK401.out)) : gb430 ≠ gb401)); have n12_ := Aside0.mk ((by rw [hg]; exact Nat.ne_of_lt (blk_lt (g := gb420) (o := .cells #[.int .i64 t414, .int .i64 t415, .slice Ao56 t416.length co56] 24 (0, 0)) (by exact BK420.out)) : gb420 ≠ gb430)); have n13_ := Aside0.mk ((by rw [hg]; exact Nat.ne_of_gt (blk_lt (g := gb420) (o := .cells #[.int .i64 t414, .int .i64 t415, .slice Ao56 t416.length co56] 24 (0, 0)) (by exact BK420.out)) : gb430 ≠ gb420)); clear HO_7; clear HO_402002; clear HO418; clear HO427; clear BK401; clear BK420; clear HB; have HO_7 := n0_; have HO_402002 := n1_; have HO418 := n2_; have HO427 := n3_; have BK401 := n4_; have BK420 := n5_; have HB := n6_; have BK430 := n7_; have GW430 := n8_; have GE430 := n9_; have NB401_430 := n10_; have NB430_401 := n11_; have NB420_430 := n12_; have NB430_420 := n13_; clear n0_ n1_ n2_ n3_ n4_ n5_ n6_ n7_ n8_ n9_ n10_ n11_ n12_ n13_; clear hb hbox hg; have hnb59 := NB430_401.out; have hnc59 := NB401_430.out; have hnb60 := NB430_420.out; have hnc60 := NB420_430.out; have hcz61_0 : w58.cell? ⟨gb430, 0, none⟩ = some (.int .i64 0) := (blk_cell BK430.out 0).trans rfl; have hcz61_1 : w58.cell? ⟨gb430, 1, none⟩ = some (.int .i64 0) := (blk_cell BK430.out 1).trans rfl; have hcz61_2 : w58.cell? ⟨gb430, 2, none⟩ = some (.slice none 0 0) := (blk_cell BK430.out 2).trans rfl; have hfz61_0 := blk_frozen BK430.out 0; have hfz61_1 := blk_frozen BK430.out 1; have hfz61_2 := blk_frozen BK430.out 2; obtain ⟨Ao62, co62, eo62⟩ := Kd.R_slice HO427.out; subst eo62; have hcz63_0 : w58.cell? ⟨gb420, 0, none⟩ = some (.int .i64 t414) := (blk_cell BK420.out 0).trans rfl; have hcz63_1 : w58.cell? ⟨gb420, 1, none⟩ = some (.int .i64 t415) := (blk_cell BK420.out 1).trans rfl; have hcz63_2 : w58.cell? ⟨gb420, 2, none⟩ = some (.slice Ao56 t416.length co56) := (blk_cell BK420.out 2).trans rfl; have hfz63_0 := blk_frozen BK420.out 0; have hfz63_1 := blk_frozen BK420.out 1; have hfz63_2 := blk_frozen BK420.out 2) | (go_at_call 30; (with_reducible refine (ident_Path.calls k2 t414 t415 _ _ t416 t431 _ ?side1 ?side2 A36.out).mono ?_); (case side1 => refine (Kd.R_reads' (e := 55) (base := w.heap.size) (ok := fun k_ => (((w.heap.size ≤ k_) ∧ True) ∧ some k_ ≠ (.slice Ao62 t425.length co62 : Value).ownBlock)) (n := t416.length) (c := co56) ?_).2.2; exact (by exact (Kd.R_mono (Kd.R_far (p := ⟨gb430, 2, none⟩) (Kd.R_far (p := ⟨gb430, 1, none⟩) (Kd.R_far (p := ⟨gb430, 0, none⟩) (Kd.R_types HO418.out BK430.out (by decide)) (fun _ hk => hk.2) (.int .i64 t423)) (fun _ hk => hk.2) (.int .i64 t424)) (fun _ hk => hk.2) (.slice Ao62 t425.length co62)) (fun _ h_ => h_.1)))); (case side2 => exact (Kd.R_reads' HO418.out).2.1); rintro e w64 ⟨v432, rfl, ho0, hb⟩; have n0_ := Aside0.mk (Kd.R_elder' (by exact (Kd.R_mono (Kd.R_far (p := ⟨gb430, 2, none⟩) (Kd.R_far (p := ⟨gb430, 1, none⟩) (Kd.R_far (p := ⟨gb430, 0, none⟩) (Kd.R_types HO_7.out BK430.out (by decide)) (fun _ hk => hk.2) (.int .i64 t423)) (fun _ hk => hk.2) (.int .i64 t424)) (fun _ hk => hk.2) (.slice Ao62 t425.length co62)) (fun _ h_ => h_.1))) (Kd.R_base ho0) hb); have n1_ := Aside0.mk (Kd.V_elder' (by exact (Kd.V_mono (Kd.V_far (p := ⟨gb430, 2, none⟩) (Kd.V_far (p := ⟨gb430, 1, none⟩) (Kd.V_far (p := ⟨gb430, 0, none⟩) (Kd.V_mono HO_402002.out (fun k_ hk => (⟨hk, hk.2⟩ : _ ∧ k_ ≠ gb430))) (fun _ hk => hk.2) (.int .i64 t423)) (fun _ hk => hk.2) (.int .i64 t424)) (fun _ hk => hk.2) (.slice Ao62 t425.length co62)) (fun _ h_ => h_.1))) (Kd.R_base ho0) hb); have n2_ := Aside0.mk (Kd.R_below (by exact (Kd.R_mono (Kd.R_far (p := ⟨gb430, 2, none⟩) (Kd.R_far (p := ⟨gb430, 1, none⟩) (Kd.R_far (p := ⟨gb430, 0, none⟩) (Kd.R_types HO418.out BK430.out (by decide)) (fun _ hk => hk.2) (.int .i64 t423)) (fun _ hk => hk.2) (.int .i64 t424)) (fun _ hk => hk.2) (.slice Ao62 t425.length co62)) (fun _ h_ => h_.1))) hb); have n3_ := Aside0.mk (Kd.R_below (by exact (Kd.R_mono (Kd.R_far (p := ⟨gb430, 2, none⟩) (Kd.R_far (p := ⟨gb430, 1, none⟩) (Kd.R_far (p := ⟨gb430, 0, none⟩) (Kd.R_types HO427.out BK430.out (by decide)) (fun _ hk => hk.2) (.int .i64 t423)) (fun _ hk => hk.2) (.int .i64 t424)) (fun _ hk => hk.2) (.slice Ao62 t425.length co62)) (fun _ h_ => h_.1))) hb); have n4_ := Aside0.mk (Kd.R_lower (Kd.R_new' (Kd.R_newM (M := fun k_ => (w.heap.size ≤ k_)) ho0 (below_size (by repeat (first | (with_reducible first | exact HB.out | apply below_alloc | apply pw_below_drewN | apply below_drew1 | refine below_set ?_ GE401.out | refine below_set ?_ GE420.out | refine below_set ?_ GE430.out) | exact HB.out))) (fun k_ h_ => h_)) (Kd.R_lt (by exact (Kd.R_mono (Kd.R_far (p := ⟨gb430, 2, none⟩) (Kd.R_far (p := ⟨gb430, 1, none⟩) (Kd.R_far (p := ⟨gb430, 0, none⟩) (Kd.R_types HO_7.out BK430.out (by decide)) (fun _ hk => hk.2) (.int .i64 t423)) (fun _ hk => hk.2) (.int .i64 t424)) (fun _ hk => hk.2) (.slice Ao62 t425.length co62)) (fun _ h_ => h_.1))))) (below_size (by repeat (first | (with_reducible first | exact HB.out | apply below_alloc | apply pw_below_drewN | apply below_drew1 | refine below_set ?_ GE401.out | refine below_set ?_ GE420.out | refine below_set ?_ GE430.out) | exact HB.out)))); have n5_ := Aside0.mk (blk_below (g := gb401) (o := .cells #[.int .i64 a0_0, .int .i64 a0_1, .slice A0_2 l0_2.length c0_2] 24 (0, 0)) (by refine blk_far ?_ NB401_430.out _; refine blk_far ?_ NB401_430.out _; refine blk_far ?_ NB401_430.out _; exact BK401.out) hb); have n6_ := Aside0.mk (blk_below (g := gb420) (o := .cells #[.int .i64 t414, .int .i64 t415, .slice Ao56 t416.length co56] 24 (0, 0)) (by refine blk_far ?_ NB420_430.out _; refine blk_far ?_ NB420_430.out _; refine blk_far ?_ NB420_430.out _; exact BK420.out) hb); have n7_ := Aside0.mk (blk_below (g := gb430) (o := .cells #[.int .i64 t423, .int .i64 t424, .slice Ao62 t425.length co62] 24 (0, 0)) (by refine blk_put (cs := #[.int .i64 t423, .int .i64 t424, .slice none 0 0]) ?_ 2 _ rfl; refine blk_put (cs := #[.int .i64 t423, .int .i64 0, .slice none 0 0]) ?_ 1 _ rfl; refine blk_put (cs := #[.int .i64 0, .int .i64 0, .slice none 0 0]) ?_ 0 _ rfl; exact BK430.out) hb); have n8_ := Aside0.mk (below_step (by repeat (first | (with_reducible first | exact HB.out | apply below_alloc | apply pw_below_drewN | apply below_drew1 | refine below_set ?_ GE401.out | refine below_set ?_ GE420.out | refine below_set ?_ GE430.out) | exact HB.out)) hb); clear HO_7; clear HO_402002; clear HO418; clear HO427; clear BK401; clear BK420; clear BK430; clear HB; have HO_7 := n0_; have HO_402002 := n1_; have HO418 := n2_; have HO427 := n3_; have HO433 := n4_; have BK401 := n5_; have BK420 := n6_; have BK430 := n7_; have HB := n8_; clear n0_ n1_ n2_ n3_ n4_ n5_ n6_ n7_ n8_; (try clear hb); (try clear hb2); (try clear hk); (try clear hi); (try clear ho0); have hcz65_0 : w64.cell? ⟨gb430, 0, none⟩ = some (.int .i64 t423) := (blk_cell BK430.out 0).trans rfl; have hcz65_1 : w64.cell? ⟨gb430, 1, none⟩ = some (.int .i64 t424) := (blk_cell BK430.out 1).trans rfl; have hcz65_2 : w64.cell? ⟨gb430, 2, none⟩ = some (.slice Ao62 t425.length co62) := (blk_cell BK430.out 2).trans rfl; have hfz65_0 := blk_frozen BK430.out 0; have hfz65_1 := blk_frozen BK430.out 1; have hfz65_2 := blk_frozen BK430.out 2; have hcz66_0 : w64.cell? ⟨gb401, 0, none⟩ = some (.int .i64 a0_0) := (blk_cell BK401.out 0).trans rfl; have hcz66_1 : w64.cell? ⟨gb401, 1, none⟩ = some (.int .i64 a0_1) := (blk_cell BK401.out 1).trans rfl; have hcz66_2 : w64.cell? ⟨gb401, 2, none⟩ = some (.slice A0_2 l0_2.length c0_2) := (blk_cell BK401.out 2).trans rfl; have hfz66_0 := blk_frozen BK401.out 0; have hfz66_1 := blk_frozen BK401.out 1; have hfz66_2 := blk_frozen BK401.out 2) | (go_at_call 17; (with_reducible refine (ident_Cmp.calls k2 t423 t424 _ _ t425 a0_0 a0_1 _ _ l0_2 t434 _ ?side1 ?side2 ?side3 ?side4 A40.out).mono ?_); (case side1 => exact (Kd.R_reads' HO427.out).2.2); (case side2 => exact (Kd.R_reads' HO427.out).2.1); (case side3 => exact (Kd.V_reads' HO_402002.out).2.2); (case side4 => exact (Kd.V_reads' HO_402002.out).2.1); rintro e w67 ⟨rfl, hb⟩; have n0_ := Aside0.mk (Kd.R_below (by exact HO_7.out) hb); have n1_ := Aside0.mk (Kd.V_below (by exact HO_402002.out) hb); have n2_ := Aside0.mk (Kd.R_below (by exact HO418.out) hb); have n3_ := Aside0.mk (Kd.R_below (by exact HO427.out) hb); have n4_ := Aside0.mk (Kd.R_below (by exact HO433.out) hb); have n5_ := Aside0.mk (blk_below (g := gb401) (o := .cells #[.int .i64 a0_0, .int .i64 a0_1, .slice A0_2 l0_2.length c0_2] 24 (0, 0)) (by exact BK401.out) hb); have n6_ := Aside0.mk (blk_below (g := gb420) (o := .cells #[.int .i64 t414, .int .i64 t415, .slice Ao56 t416.length co56] 24 (0, 0)) (by exact BK420.out) hb); have n7_ := Aside0.mk (blk_below (g := gb430) (o := .cells #[.int .i64 t423, .int .i64 t424, .slice Ao62 t425.length co62] 24 (0, 0)) (by exact BK430.out) hb); have n8_ := Aside0.mk (below_step HB.out hb); clear HO_7; clear HO_402002; clear HO418; clear HO427; clear HO433; clear BK401; clear BK420; clear BK430; clear HB; have HO_7 := n0_; have HO_402002 := n1_; have HO418 := n2_; have HO427 := n3_; have HO433 := n4_; have BK401 := n5_; have BK420 := n6_; have BK430 := n7_; have HB := n8_; clear n0_ n1_ n2_ n3_ n4_ n5_ n6_ n7_ n8_; (try clear hb); (try clear hb2); (try clear hk); (try clear hi); have hcz68_0 : w67.cell? ⟨gb420, 0, none⟩ = some (.int .i64 t414) := (blk_cell BK420.out 0).trans rfl; have hcz68_1 : w67.cell? ⟨gb420, 1, none⟩ = some (.int .i64 t415) := (blk_cell BK420.out 1).trans rfl; have hcz68_2 : w67.cell? ⟨gb420, 2, none⟩ = some (.slice Ao56 t416.length co56) := (blk_cell BK420.out 2).trans rfl; have hfz68_0 := blk_frozen BK420.out 0; have hfz68_1 := blk_frozen BK420.out 1; have hfz68_2 := blk_frozen BK420.out 2) | (go_at_call 27; (with_reducible refine (ident_Org.calls k2 t414 t415 _ _ t416 t435 _ ?side1 ?side2 A42.out).mono ?_); (case side1 => exact (Kd.R_reads' HO418.out).2.2); (case side2 => exact (Kd.R_reads' HO418.out).2.1); rintro e w69 ⟨rfl, hb⟩; have n0_ := Aside0.mk (Kd.R_below (by exact HO_7.out) hb); have n1_ := Aside0.mk (Kd.V_below (by exact HO_402002.out) hb); have n2_ := Aside0.mk (Kd.R_below (by exact HO418.out) hb); have n3_ := Aside0.mk (Kd.R_below (by exact HO427.out) hb); have n4_ := Aside0.mk (Kd.R_below (by exact HO433.out) hb); have n5_ := Aside0.mk (blk_below (g := gb401) (o := .cells #[.int .i64 a0_0, .int .i64 a0_1, .slice A0_2 l0_2.length c0_2] 24 (0, 0)) (by exact BK401.out) hb); have n6_ := Aside0.mk (blk_below (g := gb420) (o := .cells #[.int .i64 t414, .int .i64 t415, .slice Ao56 t416.length co56] 24 (0, 0)) (by exact BK420.out) hb); have n7_ := Aside0.mk (blk_below (g := gb430) (o := .cells #[.int .i64 t423, .int .i64 t424, .slice Ao62 t425.length co62] 24 (0, 0)) (by exact BK430.out) hb); have n8_ := Aside0.mk (below_step HB.out hb); clear HO_7; clear HO_402002; clear HO418; clear HO427; clear HO433; clear BK401; clear BK420; clear BK430; clear HB; have HO_7 := n0_; have HO_402002 := n1_; have HO418 := n2_; have HO427 := n3_; have HO433 := n4_; have BK401 := n5_; have BK420 := n6_; have BK430 := n7_; have HB := n8_; clear n0_ n1_ n2_ n3_ n4_ n5_ n6_ n7_ n8_; (try clear hb); (try clear hb2); (try clear hk); (try clear hi); obtain ⟨Ao70, co70, eo70⟩ := Kd.R_slice HO433.out; subst eo70; have q71 : ((t407.length : Int) : Int) ≤ ((t431.length : Int) : Int) := of_decide_eq_true (by first | (with_reducible assumption) | assumption); obtain ⟨i071, hi071, _, hsz71, _⟩ := info_parts info3; have hroom71 : t431.length ≤ co70 := (Kd.R_reads' HO433.out).2.1; have hC71 : Kd.F (Kd.int .i64) _ _ Ao70 t431.length t431 := (Kd.V_at (base := w.heap.size) (Kd.V_mono (ok' := (fun k_ => ((((((((P0_2_ k_ ∨ w.heap.size ≤ k_) ∧ True) ∧ some k_ ≠ (.slice Ao50 t407.length co50 : Value).ownBlock) ∧ some k_ ≠ (.slice Ao56 t416.length co56 : Value).ownBlock) ∧ some k_ ≠ (.slice Ao62 t425.length co62 : Value).ownBlock) ∧ k_ ≠ gb401) ∧ k_ ≠ gb420) ∧ k_ ≠ gb430))) (Kd.R_V (Kd.R_types (Kd.R_types (Kd.R_types (Kd.R_apart' (Kd.R_apart' (HO433.out) (Kd.R_typed HO418.out) (by decide)) (Kd.R_typed HO427.out) (by decide)) BK401.out (by decide)) BK420.out (by decide)) BK430.out (by decide))) (fun k_ hk => ⟨⟨⟨⟨⟨⟨⟨(.inr (hk.1.1.1.1.1.1.1)), trivial⟩, hk.1.1.1.1.1.2⟩, hk.1.1.1.1.2⟩, hk.1.1.1.2⟩, hk.1.1.2⟩, hk.1.2⟩, hk.2⟩))).2.2; have hcut71 := cut_to (P := Tryd.prog) 51 3 .i64 Tryd.underlying51 hi071 Ao70 t431.length co70 (t407.length : Int) (of_decide_eq_true (by first | (with_reducible assumption) | assumption)) q71 hroom71; have hr71 := Kd.F_take (m := ((t407.length : Int) : Int).toNat) hC71 (by omega); have hy71 : y436.length = ((t407.length : Int) : Int).toNat := (by rw [Ny436.out, List.length_take]; omega); rw [← Ny436.out] at hr71; rw [← hy71] at hcut71; have HO440 := Aside0.mk (show Kd.V (Kd.int .i64) 3 _ w.heap.size _ (.slice Ao70 y436.length co70) y436 from Kd.V_mk (by omega) hr71); have HC440 := Aside0.mk (show y436.length ≤ co70 from by omega); clear hr71 hC71 hroom71 hi071 hsz71; have KY71 := Aside0.mk hy71; clear hy71; replace q71 := eq_true q71) | (go_at_call 29; (with_reducible refine (ententelaw03_numbers.calls k2 _ _ y436 _ _ t407 true _ ?side1 ?side2 ?side3 ?side4 A47.out).mono ?_); (case side1 => exact (Kd.V_reads' HO440.out).2.2); (case side2 => exact (Kd.V_reads' HO440.out).2.1); (case side3 => exact (Kd.R_reads' HO_7.out).2.2); (case side4 => exact (Kd.R_reads' HO_7.out).2.1); rintro e w' ⟨rfl, ⟨nd, rfl⟩⟩; (try first | exact ⟨rfl, _, World.drewN_drewN _ _ _⟩ | exact ⟨rfl, _, Eq.trans (World.drewN_drewN _ _ _) (congrArg (World.drewN _) (Nat.add_assoc _ _ _))⟩)) | (go_at_call 11; (with_reducible refine (ententelaw03_awake.calls k2  t442 _ ?side1 A49.out).mono ?_); (case side1 => exact WH.below HWH_.out (by repeat (first | (with_reducible first | exact HB.out | apply below_alloc | apply pw_below_drewN | apply below_drew1 | refine below_set ?_ GE401.out | refine below_set ?_ GE420.out | refine below_set ?_ GE430.out) | exact HB.out))); rintro e w72 ⟨rfl, hb⟩; have n0_ := Aside0.mk (Kd.R_below (by (with_reducible repeat (first | apply Kd.R_alloc | apply Kd.R_drewN | apply Kd.R_drew)); exact HO_7.out) hb); have n1_ := Aside0.mk (Kd.V_below (by (with_reducible repeat (first | apply Kd.V_alloc | apply Kd.V_drewN | apply Kd.V_drew)); exact HO_402002.out) hb); have n2_ := Aside0.mk (Kd.R_below (by (with_reducible repeat (first | apply Kd.R_alloc | apply Kd.R_drewN | apply Kd.R_drew)); exact HO418.out) hb); have n3_ := Aside0.mk (Kd.R_below (by (with_reducible repeat (first | apply Kd.R_alloc | apply Kd.R_drewN | apply Kd.R_drew)); exact HO427.out) hb); have n4_ := Aside0.mk (Kd.R_below (by (with_reducible repeat (first | apply Kd.R_alloc | apply Kd.R_drewN | apply Kd.R_drew)); exact HO433.out) hb); have n5_ := Aside0.mk (Kd.V_below (by (with_reducible repeat (first | apply Kd.V_alloc | apply Kd.V_drewN | apply Kd.V_drew)); exact HO440.out) hb); have n6_ := Aside0.mk (blk_below (g := gb401) (o := .cells #[.int .i64 a0_0, .int .i64 a0_1, .slice A0_2 l0_2.length c0_2] 24 (0, 0)) (by (with_reducible repeat (first | refine blk_drewN ?_ _ | refine blk_drew ?_ | refine blk_alloc ?_ _)); exact BK401.out) hb); have n7_ := Aside0.mk (blk_below (g := gb420) (o := .cells #[.int .i64 t414, .int .i64 t415, .slice Ao56 t416.length co56] 24 (0, 0)) (by (with_reducible repeat (first | refine blk_drewN ?_ _ | refine blk_drew ?_ | refine blk_alloc ?_ _)); exact BK420.out) hb); have n8_ := Aside0.mk (blk_below (g := gb430) (o := .cells #[.int .i64 t423, .int .i64 t424, .slice Ao62 t425.length co62] 24 (0, 0)) (by (with_reducible repeat (first | refine blk_drewN ?_ _ | refine blk_drew ?_ | refine blk_alloc ?_ _)); exact BK430.out) hb); have n9_ := Aside0.mk (below_step (by repeat (first | (with_reducible first | exact HB.out | apply below_alloc | apply pw_below_drewN | apply below_drew1 | refine below_set ?_ GE401.out | refine below_set ?_ GE420.out | refine below_set ?_ GE430.out) | exact HB.out)) hb); clear HO_7; clear HO_402002; clear HO418; clear HO427; clear HO433; clear HO440; clear BK401; clear BK420; clear BK430; clear HB; have HO_7 := n0_; have HO_402002 := n1_; have HO418 := n2_; have HO427 := n3_; have HO433 := n4_; have HO440 := n5_; have BK401 := n6_; have BK420 := n7_; have BK430 := n8_; have HB := n9_; clear n0_ n1_ n2_ n3_ n4_ n5_ n6_ n7_ n8_ n9_; (try clear hb); (try clear hb2); (try clear hk); (try clear hi)))
                  repeat (go_quiet (fail); try go_wp2_with (fail))
                  go_ret
                  exact ⟨by first | rfl | (simp [errW_none, errW_some] <;> rfl) | (simp [*, errW_none, errW_some] <;> rfl), HB.out⟩
                 ·replace c48 := Bool.eq_false_iff.mpr c48
                  subst c48
                  have H1 : (none) = some r := by rw [if_neg (show ¬ (false = true) by decide)] at H; exact H
                  clear H
                  have H := H1
                  clear H1
                  exact absurd H (by simp)
                ·rw [if_neg c46] at H
                 exact absurd H (by simp)
               ·rw [if_neg c45] at H
                exact absurd H (by simp)
              ·rw [if_neg c44] at H
               exact absurd H (by simp)
             ·rw [if_neg c43] at H
              exact absurd H (by simp)
            ·rw [if_neg c41] at H
             exact absurd H (by simp)
           ·rw [if_neg c39] at H
            exact absurd H (by simp)
          ·replace c38 := Bool.eq_false_iff.mpr c38
           subst c38
           have H1 : (none) = some r := by rw [if_neg (show ¬ (false = true) by decide)] at H; exact H
           clear H
           have H := H1
           clear H1
           exact absurd H (by simp)
        ·rw [if_neg c34] at H
         have c34b0 : (t419 == 0) = false := beq_eq_false_iff_ne.mpr c34
         have c34b1 : (t419 != 0) = true := bne_iff_ne.mpr c34
         replace H := Option.bind_eq_some_iff.mp H
         obtain ⟨t421, A730, H⟩ := H
         replace H : (if t421 = true then ((ententelaw03_awake.f k2).bind fun t422 => (some t422)) else (none)) = some r := H
         have A73 := Aside0.mk A730
         clear A730
         by_cases c74 : t421 = true
         ·subst c74
          have H1 : ((ententelaw03_awake.f k2).bind fun t422 => (some t422)) = some r := by rw [if_pos rfl] at H; exact H
          clear H
          have H := H1
          clear H1
          replace H := Option.bind_eq_some_iff.mp H
          obtain ⟨t422, A750, H⟩ := H
          replace H : (some t422) = some r := H
          have A75 := Aside0.mk A750
          clear A750
          obtain rfl := Option.some.inj H
          obtain ⟨Ao76, co76, eo76⟩ := Kd.R_slice HO_7.out
          subst eo76
          have hcz77_0 : wr.cell? ⟨gb401, 0, none⟩ = some (.int .i64 a0_0) := (blk_cell BK401.out 0).trans rfl
          have hcz77_1 : wr.cell? ⟨gb401, 1, none⟩ = some (.int .i64 a0_1) := (blk_cell BK401.out 1).trans rfl
          have hcz77_2 : wr.cell? ⟨gb401, 2, none⟩ = some (.slice A0_2 l0_2.length c0_2) := (blk_cell BK401.out 2).trans rfl
          have hfz77_0 := blk_frozen BK401.out 0
          have hfz77_1 := blk_frozen BK401.out 1
          have hfz77_2 := blk_frozen BK401.out 2
          go_wp2_with (first | (go_at_call 14; (with_reducible refine (ident_Child.calls a0_0 a0_1 _ _ l0_2 a1 a2 t414 t415 t416 t419 _ ?side1 ?side2 A33.out).mono ?_); (case side1 => exact (Kd.V_reads' HO_402002.out).2.2); (case side2 => exact (Kd.V_reads' HO_402002.out).2.1); rintro e w78 ⟨v417, rfl, ho0, hb⟩; have n0_ := Aside0.mk (Kd.R_below (by exact HO_7.out) hb); have n1_ := Aside0.mk (Kd.V_elder' (by exact HO_402002.out) (Kd.R_base ho0) hb); have n2_ := Aside0.mk (Kd.R_lower (Kd.R_newM (M := fun k_ => (w.heap.size ≤ k_)) ho0 (below_size HB.out) (fun k_ h_ => h_)) (below_size HB.out)); have n3_ := Aside0.mk (blk_below (g := gb401) (o := .cells #[.int .i64 a0_0, .int .i64 a0_1, .slice A0_2 l0_2.length c0_2] 24 (0, 0)) (by exact BK401.out) hb); have n4_ := Aside0.mk (below_step HB.out hb); clear HO_7; clear HO_402002; clear BK401; clear HB; have HO_7 := n0_; have HO_402002 := n1_; have HO418 := n2_; have BK401 := n3_; have HB := n4_; clear n0_ n1_ n2_ n3_ n4_; (try clear hb); (try clear hb2); (try clear hk); (try clear hi); (try clear ho0)) | ((with_reducible refine gate_dst (N := 11) rfl ?_); (try (refine gate_guard (by rfl) ?_; dsimp only)); refine box_event ?hg (N := 11) ?hd (cs := #[.int .i64 0, .int .i64 0, .slice none 0 0]) (t := 24) ?hr ?_; (case hd => rfl); (case hg => rfl); (case hr => first | (go_simp; done) | (go_simp; rfl)); intro gb420 hg w79 hbox hb; have n0_ := Aside0.mk (Kd.R_below (by exact HO_7.out) hb); have n1_ := Aside0.mk (Kd.V_below (Kd.V_elderB (by exact HO_402002.out) gb420 (Nat.le_of_eq hg.symm)) hb); have n2_ := Aside0.mk (Kd.R_below (by exact HO418.out) hb); have n3_ := Aside0.mk (blk_below (g := gb401) (o := .cells #[.int .i64 a0_0, .int .i64 a0_1, .slice A0_2 l0_2.length c0_2] 24 (0, 0)) (by exact BK401.out) hb); have n4_ := Aside0.mk (below_step HB.out hb); have n5_ := Aside0.mk (hbox); have n6_ := Aside0.mk ((by rw [hg]; exact (below_size HB.out) : w.heap.size ≤ gb420)); have n7_ := Aside0.mk ((by rw [hg]; exact (below_size HB.out) : w.heap.size ≤ gb420)); have n8_ := Aside0.mk ((by rw [hg]; exact Nat.ne_of_lt (blk_lt (g := gb401) (o := .cells #[.int .i64 a0_0, .int .i64 a0_1, .slice A0_2 l0_2.length c0_2] 24 (0, 0)) (by exact BK401.out)) : gb401 ≠ gb420)); have n9_ := Aside0.mk ((by rw [hg]; exact Nat.ne_of_gt (blk_lt (g := gb401) (o := .cells #[.int .i64 a0_0, .int .i64 a0_1, .slice A0_2 l0_2.length c0_2] 24 (0, 0)) (by exact BK401.out)) : gb420 ≠ gb401)); clear HO_7; clear HO_402002; clear HO418; clear BK401; clear HB; have HO_7 := n0_; have HO_402002 := n1_; have HO418 := n2_; have BK401 := n3_; have HB := n4_; have BK420 := n5_; have GW420 := n6_; have GE420 := n7_; have NB401_420 := n8_; have NB420_401 := n9_; clear n0_ n1_ n2_ n3_ n4_ n5_ n6_ n7_ n8_ n9_; clear hb hbox hg; have hnb80 := NB420_401.out; have hnc80 := NB401_420.out; have hcz81_0 : w79.cell? ⟨gb420, 0, none⟩ = some (.int .i64 0) := (blk_cell BK420.out 0).trans rfl; have hcz81_1 : w79.cell? ⟨gb420, 1, none⟩ = some (.int .i64 0) := (blk_cell BK420.out 1).trans rfl; have hcz81_2 : w79.cell? ⟨gb420, 2, none⟩ = some (.slice none 0 0) := (blk_cell BK420.out 2).trans rfl; have hfz81_0 := blk_frozen BK420.out 0; have hfz81_1 := blk_frozen BK420.out 1; have hfz81_2 := blk_frozen BK420.out 2; obtain ⟨Ao82, co82, eo82⟩ := Kd.R_slice HO418.out; subst eo82) | (go_at_call 16; (refine (ententeref03_Same.calls k2 t414 t415 _ _ t416 0 0 _ _ ([] : List (S55)) true _ ?side1 ?side2 ?side3 ?side4 A73.out).mono ?_); (case side1 => refine (Kd.R_reads' (e := 55) (base := w.heap.size) (ok := fun k_ => ((w.heap.size ≤ k_) ∧ True)) (n := t416.length) (c := co82) ?_).2.2; exact (by exact (Kd.R_mono (Kd.R_far (p := ⟨gb420, 2, none⟩) (Kd.R_far (p := ⟨gb420, 1, none⟩) (Kd.R_far (p := ⟨gb420, 0, none⟩) (Kd.R_types HO418.out BK420.out (by decide)) (fun _ hk => hk.2) (.int .i64 t414)) (fun _ hk => hk.2) (.int .i64 t415)) (fun _ hk => hk.2) (.slice Ao82 t416.length co82)) (fun _ h_ => h_.1)))); (case side2 => exact (Kd.R_reads' HO418.out).2.1); (case side3 => exact Kd.C_nil _ _); (case side4 => exact Nat.le_refl _); rintro e w83 ⟨rfl, hb⟩; have n0_ := Aside0.mk (Kd.R_below (by exact (Kd.R_mono (Kd.R_far (p := ⟨gb420, 2, none⟩) (Kd.R_far (p := ⟨gb420, 1, none⟩) (Kd.R_far (p := ⟨gb420, 0, none⟩) (Kd.R_types HO_7.out BK420.out (by decide)) (fun _ hk => hk.2) (.int .i64 t414)) (fun _ hk => hk.2) (.int .i64 t415)) (fun _ hk => hk.2) (.slice Ao82 t416.length co82)) (fun _ h_ => h_.1))) hb); have n1_ := Aside0.mk (Kd.V_below (by exact (Kd.V_mono (Kd.V_far (p := ⟨gb420, 2, none⟩) (Kd.V_far (p := ⟨gb420, 1, none⟩) (Kd.V_far (p := ⟨gb420, 0, none⟩) (Kd.V_mono HO_402002.out (fun k_ hk => (⟨hk, hk.2⟩ : _ ∧ k_ ≠ gb420))) (fun _ hk => hk.2) (.int .i64 t414)) (fun _ hk => hk.2) (.int .i64 t415)) (fun _ hk => hk.2) (.slice Ao82 t416.length co82)) (fun _ h_ => h_.1))) hb); have n2_ := Aside0.mk (Kd.R_below (by exact (Kd.R_mono (Kd.R_far (p := ⟨gb420, 2, none⟩) (Kd.R_far (p := ⟨gb420, 1, none⟩) (Kd.R_far (p := ⟨gb420, 0, none⟩) (Kd.R_types HO418.out BK420.out (by decide)) (fun _ hk => hk.2) (.int .i64 t414)) (fun _ hk => hk.2) (.int .i64 t415)) (fun _ hk => hk.2) (.slice Ao82 t416.length co82)) (fun _ h_ => h_.1))) hb); have n3_ := Aside0.mk (blk_below (g := gb401) (o := .cells #[.int .i64 a0_0, .int .i64 a0_1, .slice A0_2 l0_2.length c0_2] 24 (0, 0)) (by refine blk_far ?_ NB401_420.out _; refine blk_far ?_ NB401_420.out _; refine blk_far ?_ NB401_420.out _; exact BK401.out) hb); have n4_ := Aside0.mk (blk_below (g := gb420) (o := .cells #[.int .i64 t414, .int .i64 t415, .slice Ao82 t416.length co82] 24 (0, 0)) (by refine blk_put (cs := #[.int .i64 t414, .int .i64 t415, .slice none 0 0]) ?_ 2 _ rfl; refine blk_put (cs := #[.int .i64 t414, .int .i64 0, .slice none 0 0]) ?_ 1 _ rfl; refine blk_put (cs := #[.int .i64 0, .int .i64 0, .slice none 0 0]) ?_ 0 _ rfl; exact BK420.out) hb); have n5_ := Aside0.mk (below_step (by repeat (first | (with_reducible first | exact HB.out | apply below_alloc | apply pw_below_drewN | apply below_drew1 | refine below_set ?_ GE401.out | refine below_set ?_ GE420.out) | exact HB.out)) hb); clear HO_7; clear HO_402002; clear HO418; clear BK401; clear BK420; clear HB; have HO_7 := n0_; have HO_402002 := n1_; have HO418 := n2_; have BK401 := n3_; have BK420 := n4_; have HB := n5_; clear n0_ n1_ n2_ n3_ n4_ n5_; (try clear hb); (try clear hb2); (try clear hk); (try clear hi)) | (go_at_call 11; (with_reducible refine (ententelaw03_awake.calls k2  t422 _ ?side1 A75.out).mono ?_); (case side1 => exact WH.below HWH_.out HB.out); rintro e w84 ⟨rfl, hb⟩; have n0_ := Aside0.mk (Kd.R_below (by exact HO_7.out) hb); have n1_ := Aside0.mk (Kd.V_below (by exact HO_402002.out) hb); have n2_ := Aside0.mk (Kd.R_below (by exact HO418.out) hb); have n3_ := Aside0.mk (blk_below (g := gb401) (o := .cells #[.int .i64 a0_0, .int .i64 a0_1, .slice A0_2 l0_2.length c0_2] 24 (0, 0)) (by exact BK401.out) hb); have n4_ := Aside0.mk (blk_below (g := gb420) (o := .cells #[.int .i64 t414, .int .i64 t415, .slice Ao82 t416.length co82] 24 (0, 0)) (by exact BK420.out) hb); have n5_ := Aside0.mk (below_step HB.out hb); clear HO_7; clear HO_402002; clear HO418; clear BK401; clear BK420; clear HB; have HO_7 := n0_; have HO_402002 := n1_; have HO418 := n2_; have BK401 := n3_; have BK420 := n4_; have HB := n5_; clear n0_ n1_ n2_ n3_ n4_ n5_; (try clear hb); (try clear hb2); (try clear hk); (try clear hi)))
          repeat (go_quiet (fail); try go_wp2_with (fail))
          go_ret
          exact ⟨by first | rfl | (simp [errW_none, errW_some] <;> rfl) | (simp [*, errW_none, errW_some] <;> rfl), HB.out⟩
         ·replace c74 := Bool.eq_false_iff.mpr c74
          subst c74
          have H1 : (none) = some r := by rw [if_neg (show ¬ (false = true) by decide)] at H; exact H
          clear H
          have H := H1
          clear H1
          exact absurd H (by simp)
 ·replace c5 := Bool.eq_false_iff.mpr c5
  subst c5
  have H1 : ((ententelaw03_awake.f k).bind fun t406 => (some t406)) = some r := by rw [if_neg (show ¬ (false = true) by decide)] at H; exact H
  clear H
  have H := H1
  clear H1
  replace H := Option.bind_eq_some_iff.mp H
  obtain ⟨t406, A850, H⟩ := H
  replace H : (some t406) = some r := H
  have A85 := Aside0.mk A850
  clear A850
  obtain rfl := Option.some.inj H
  go_enter Tryd.func9, Tryd.ntmps9
  go_wp2_with (first | ((with_reducible refine gate_dst (N := 3) rfl ?_); (try (refine gate_guard (by rfl) ?_; dsimp only)); refine box_event ?hg (N := 3) ?hd (cs := #[.int .i64 a0_0, .int .i64 a0_1, .slice A0_2 l0_2.length c0_2]) (t := 24) ?hr ?_; (case hd => rfl); (case hg => rfl); (case hr => first | (go_simp; done) | (go_simp; rfl)); intro gb401 hg w86 hbox hb; have n0_ := Aside0.mk (Kd.V_below (Kd.V_elderB (by exact HO0_2.out) gb401 (Nat.le_of_eq hg.symm)) hb); have n1_ := Aside0.mk (below_step HB.out hb); have n2_ := Aside0.mk (hbox); have n3_ := Aside0.mk ((by rw [hg]; exact (below_size HB.out) : w.heap.size ≤ gb401)); have n4_ := Aside0.mk ((by rw [hg]; exact (below_size HB.out) : w.heap.size ≤ gb401)); clear HO0_2; clear HB; have HO0_2 := n0_; have HB := n1_; have BK401 := n2_; have GW401 := n3_; have GE401 := n4_; clear n0_ n1_ n2_ n3_ n4_; clear hb hbox hg; have hcz87_0 : w86.cell? ⟨gb401, 0, none⟩ = some (.int .i64 a0_0) := (blk_cell BK401.out 0).trans rfl; have hcz87_1 : w86.cell? ⟨gb401, 1, none⟩ = some (.int .i64 a0_1) := (blk_cell BK401.out 1).trans rfl; have hcz87_2 : w86.cell? ⟨gb401, 2, none⟩ = some (.slice A0_2 l0_2.length c0_2) := (blk_cell BK401.out 2).trans rfl; have hfz87_0 := blk_frozen BK401.out 0; have hfz87_1 := blk_frozen BK401.out 1; have hfz87_2 := blk_frozen BK401.out 2) | ((with_reducible refine gate_dst (N := 18) rfl ?_); (try (refine gate_guard (by rfl) ?_; dsimp only)); refine Kd.N_lit k24 _ 24 ?hg (N' := 18) ?hd (xs := ([(⟨a0_0, a0_1, l0_2⟩ : S24)] : List (S24))) (inner := [.int .i64 a0_0, .int .i64 a0_1, .slice A0_2 l0_2.length c0_2]) (ok := (fun k_ => (P0_2_ k_ ∨ w.heap.size ≤ k_) ∧ k_ ≠ gb401)) (okp := (fun k_ => (P0_2_ k_ ∨ w.heap.size ≤ k_) ∧ k_ ≠ gb401)) ?hr ?hp (fun _ hk => hk) ((show ∀ k_, w86.heap.size ≤ k_ → (fun k_ => (P0_2_ k_ ∨ w.heap.size ≤ k_) ∧ k_ ≠ gb401) k_ from fun k_ hk => ⟨(.inr (Nat.le_trans (below_size HB.out) hk)), Kd.freshB (g := gb401) (o := .cells #[.int .i64 a0_0, .int .i64 a0_1, .slice A0_2 l0_2.length c0_2] 24 (0, 0)) (by exact BK401.out) k_ hk⟩) _ (Nat.le_refl _)) (Below.refl _ _) (Nat.le_refl _) (by simp) ?_; (case hd => rfl); (case hg => rfl); (case hr => first | (go_simp; done) | (go_simp; rfl)); (case hp => exact (Reps.c3 (show Kd.FK k24 _ _ (⟨a0_0, a0_1, l0_2⟩ : S24) [.int .i64 a0_0, .int .i64 a0_1, .slice A0_2 l0_2.length c0_2] from (k24_mkF _ _ (⟨a0_0, a0_1, l0_2⟩ : S24) (Kd.V_reads' (Kd.V_mono (ok' := (fun k_ => (P0_2_ k_ ∨ w.heap.size ≤ k_) ∧ k_ ≠ gb401)) (HO0_2.out) (fun k_ hk => ⟨hk.1, hk.2⟩))).2.1 (Kd.V_F (Kd.V_mono (ok' := (fun k_ => (P0_2_ k_ ∨ w.heap.size ≤ k_) ∧ k_ ≠ gb401)) (HO0_2.out) (fun k_ hk => ⟨hk.1, hk.2⟩))))) (Reps.none _ _))); intro v403 w88 ho89 hb hg_ hnew_; clear hg_ hnew_; (first | rw [← Ny402.out] at ho89 | (simp only [Int.reduceToNat] at ho89; rw [← Ny402.out] at ho89)); have n0_ := Aside0.mk (Kd.V_elder' (by exact HO0_2.out) (Kd.N_base ho89) hb); have n1_ := Aside0.mk (Kd.N_lower ho89 (below_size HB.out)); have n2_ := Aside0.mk (blk_below (g := gb401) (o := .cells #[.int .i64 a0_0, .int .i64 a0_1, .slice A0_2 l0_2.length c0_2] 24 (0, 0)) (by exact BK401.out) hb); have n3_ := Aside0.mk (below_step HB.out hb); clear HO0_2; clear BK401; clear HB; have HO0_2 := n0_; have HO404 := n1_; have BK401 := n2_; have HB := n3_; clear n0_ n1_ n2_ n3_; clear hb ho89; obtain ⟨Ao90, co90, eo90⟩ := Kd.N_slice HO404.out; subst eo90) | (go_at_call 10; (with_reducible refine (ententelaw03_few.calls k _ _ y402 false _ ?side1 ?side2 A4.out).mono ?_); (case side1 => exact (Kd.N_reads' HO404.out).2.2); (case side2 => exact (Kd.N_reads' HO404.out).2.1); rintro e w' ⟨rfl, ⟨nd, rfl⟩⟩; (try first | exact ⟨rfl, _, World.drewN_drewN _ _ _⟩ | exact ⟨rfl, _, Eq.trans (World.drewN_drewN _ _ _) (congrArg (World.drewN _) (Nat.add_assoc _ _ _))⟩)) | (go_at_call 11; (with_reducible refine (ententelaw03_awake.calls k  t406 _ ?side1 A85.out).mono ?_); (case side1 => exact WH.below HWH_.out (by repeat (first | (with_reducible first | exact HB.out | apply below_alloc | apply pw_below_drewN | apply below_drew1 | refine below_set ?_ GE401.out) | exact HB.out))); rintro e w91 ⟨rfl, hb⟩; have n0_ := Aside0.mk (Kd.V_below (by (with_reducible repeat (first | apply Kd.V_alloc | apply Kd.V_drewN | apply Kd.V_drew)); exact HO0_2.out) hb); have n1_ := Aside0.mk (blk_below (g := gb401) (o := .cells #[.int .i64 a0_0, .int .i64 a0_1, .slice A0_2 l0_2.length c0_2] 24 (0, 0)) (by (with_reducible repeat (first | refine blk_drewN ?_ _ | refine blk_drew ?_ | refine blk_alloc ?_ _)); exact BK401.out) hb); have n2_ := Aside0.mk (below_step (by repeat (first | (with_reducible first | exact HB.out | apply below_alloc | apply pw_below_drewN | apply below_drew1 | refine below_set ?_ GE401.out) | exact HB.out)) hb); clear HO0_2; clear BK401; clear HB; have HO0_2 := n0_; have BK401 := n1_; have HB := n2_; clear n0_ n1_ n2_; (try clear hb); (try clear hb2); (try clear hk); (try clear hi)))
  repeat (go_quiet (fail); try go_wp2_with (fail))
  go_ret
  exact ⟨by first | rfl | (simp [errW_none, errW_some] <;> rfl) | (simp [*, errW_none, errW_some] <;> rfl), HB.out⟩

end Go.Proofs.YtnlljacklhgfgaaDoor.PI

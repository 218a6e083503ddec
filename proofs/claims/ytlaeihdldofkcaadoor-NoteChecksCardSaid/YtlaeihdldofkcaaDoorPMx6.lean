/- The machine side of this seat's laws: plain functions, and proofs that the calls do what they say; written by a program of this session over the translation; no conditions beyond those typed. -/
import Derived.Test.YtlaeihdldofkcaaDoorPMx0
import Derived.Test.YtlaeihdldofkcaaDoorPMx2
import Derived.Test.YtlaeihdldofkcaaDoorPMx5
namespace Go.Proofs.YtlaeihdldofkcaaDoor.PN
open Go.RowKit Go.Proofs.YtlaeihdldofkcaaDoorW.PrintWords Go.Proofs.YtlaeihdldofkcaaDoorW.PrintLast Go.Proofs.YtlaeihdldofkcaaDoorW.PrintMore
attribute [local go_sem] max2_int min2_int max_two min_two max_three min_three max_four min_four   -- for this text's walks alone
set_option linter.unusedVariables false
set_option linter.unusedSimpArgs false

/-! ### ident_Parse: function 47 -/
def ident_Parse.l0 : Nat → ByteArray → List ByteArray → Int → Int → Int → Int → List (S50) → Option (Int × Int × (List (S50)) × Int)
 | 0, _, _, _, _, _, _, _ => none
 | k + 1, x0, x28, x29, x30, x179000, x179001, x179002 => if x30 < x29 then (if 0 ≤ x30 then (if x30 < (x28.length : Int) then ((ident_pair.f k (rdOf ByteArray.empty x28 x30) (⟨#[64]⟩ : ByteArray)).bind fun bt187 => (if x179002.length < 8796093022208 then (ident_Parse.l0 k x0 x28 x29 (wrap64 (x30 + 1)) x179000 x179001 (x179002 ++ [(⟨bt187.1, bt187.2⟩ : S50)])) else (none))) else (none)) else (none)) else ((ident_Show.f k x179000 x179001 x179002).bind fun bt192 => (if bt192.2 = 0 then (if bt192.1.toList = x0.toList then (some (x179000, x179001, x179002, 0)) else (some (0, 0, ([] : List (S50)), 30))) else (some (0, 0, ([] : List (S50)), 30))))
def ident_Parse.f (k : Nat) (a0 : ByteArray) : Option (Int × Int × (List (S50)) × Int) := if (a0.size : Int) > 100 then (some (0, 0, ([] : List (S50)), 30)) else ((strings_Split.f a0 (⟨#[47]⟩ : ByteArray)).bind fun t175 => (if 0 < (t175.length : Int) then ((ident_pair.f k (rdOf ByteArray.empty t175 0) (⟨#[46]⟩ : ByteArray)).bind fun bt180 => (if 1 ≤ (t175.length : Int) then ((some (t175.drop 1 : List ByteArray)).bind fun y182 => (ident_Parse.l0 k a0 y182 (y182.length : Int) 0 bt180.1 bt180.2 ([] : List (S50)))) else (none))) else (none)))
theorem ident_Parse.mono_l : ∀ k, (∀ y0 y1 y2 y3 y4 y5 y6, LeO (ident_Parse.l0 k y0 y1 y2 y3 y4 y5 y6) (ident_Parse.l0 (k + 1) y0 y1 y2 y3 y4 y5 y6))
 | 0 => fun _ _ _ _ _ _ _ r h => by simp [ident_Parse.l0] at h
 | k + 1 => by
  have ih0 := ident_Parse.mono_l k
  ·intro y0 y1 y2 y3 y4 y5 y6
   unfold ident_Parse.l0
   repeat' first
   | (with_reducible exact ih0 _ _ _ _ _ _ _)
   | (with_reducible exact ident_Show.mono _ _ _ _)
   | (with_reducible exact ident_pair.mono _ _ _)
   | (with_reducible exact LeO.refl _)
   | (with_reducible exact LeO.none _)
   | (with_reducible refine LeO.ite ?_ ?_)
   | (with_reducible refine LeO.bind ?_ (fun _ => ?_))
   | exact ih0 _ _ _ _ _ _ _
   | exact ident_Show.mono _ _ _ _
   | exact ident_pair.mono _ _ _
   | exact LeO.none _
   | refine LeO.ite ?_ ?_
   | refine LeO.bind ?_ (fun _ => ?_)
theorem ident_Parse.mono : ∀ a0 k, LeO (ident_Parse.f k a0) (ident_Parse.f (k + 1) a0) := by
 intro a0 k
 have ih0 := ident_Parse.mono_l k
 unfold ident_Parse.f
 repeat' first
   | (with_reducible exact ih0 _ _ _ _ _ _ _)
   | (with_reducible exact ident_Show.mono _ _ _ _)
   | (with_reducible exact ident_pair.mono _ _ _)
   | (with_reducible exact LeO.refl _)
   | (with_reducible exact LeO.none _)
   | (with_reducible refine LeO.ite ?_ ?_)
   | (with_reducible refine LeO.bind ?_ (fun _ => ?_))
   | exact ih0 _ _ _ _ _ _ _
   | exact ident_Show.mono _ _ _ _
   | exact ident_pair.mono _ _ _
   | exact LeO.none _
   | refine LeO.ite ?_ ?_
   | refine LeO.bind ?_ (fun _ => ?_)
set_option maxHeartbeats 8000000 in
set_option maxRecDepth 100000 in
theorem ident_Parse.calls (k : Nat) (a0 : ByteArray) (r1 : Int) (r2 : Int) (r3 : List (S50)) (r4 : Int) (w : World) (hw_ : WH w) (h : ident_Parse.f k a0 = some (r1, r2, r3, r4)) :
  Calls Tryd.prog 47 #[.string a0] w fun e w' => ∃ v2_ : Value, e = .returned (.tuple #[.agg #[.int .i64 r1, .int .i64 r2, v2_], .int .i64 r4]) ∧ Kd.R k50 50 w' w.heap.size (fun _ => True) v2_ r3 ∧ Below w.heap.size w w' := by
 have hu24 := Tryd.underlying24
 have hu55 := Tryd.underlying50
 have HWH_ := Aside0.mk hw_
 clear hw_
 have HB := Aside0.mk (Below.refl w.heap.size w)
 have H : (if (a0.size : Int) > 100 then (some (0, 0, ([] : List (S50)), 30)) else ((strings_Split.f a0 (⟨#[47]⟩ : ByteArray)).bind fun t175 => (if 0 < (t175.length : Int) then ((ident_pair.f k (rdOf ByteArray.empty t175 0) (⟨#[46]⟩ : ByteArray)).bind fun bt180 => (if 1 ≤ (t175.length : Int) then ((some (t175.drop 1 : List ByteArray)).bind fun y182 => (ident_Parse.l0 k a0 y182 (y182.length : Int) 0 bt180.1 bt180.2 ([] : List (S50)))) else (none))) else (none)))) = some (r1, r2, r3, r4) := h
 clear h
 by_cases c2 : (a0.size : Int) > 100
 ·rw [if_pos c2] at H
  have c2b0 : decide (100 < (a0.size : Int)) = true := decide_eq_true c2
  have c2b1 : decide (100 < a0.size) = true := decide_eq_true (by omega)
  clear c2
  simp only [Option.some.injEq, Prod.mk.injEq] at H
  obtain ⟨rfl, rfl, rfl, rfl⟩ := H
  go_enter Tryd.func47, Tryd.ntmps47
  go_wp2_with (first | ((with_reducible refine gate_dst (N := 2) rfl ?_); refine box_event ?hg (N := 2) ?hd (cs := #[.int .i64 0, .int .i64 0, .slice none 0 0]) (t := 24) ?hr ?_; (case hd => rfl); (case hg => rfl); (case hr => (go_simp; done)); intro gb174 hg w3 hbox hb; have BK174 := Aside0.mk (hbox); have GW174 := Aside0.mk ((by rw [hg]; exact (below_size (HB.out)) : w.heap.size ≤ gb174)); have GE174 := Aside0.mk ((by rw [hg]; exact (below_size (HB.out)) : w.heap.size ≤ gb174)); replace HB := Aside0.mk (below_step (HB.out) hb); clear hb hbox hg; obtain ⟨hcz4_0, hcz4_1, hcz4_2⟩ := bc3 BK174.out; obtain ⟨hfz4_0, hfz4_1, hfz4_2⟩ := bf3 BK174.out))
  refine bodyPost_ret (results_ct rfl _ _ gb174 24 #[.int .i64 0, .int .i64 0, .slice none 0 0] (0, 0) _ rfl (by refine blk_put (cs := #[.int .i64 0, .int .i64 0, .slice none 0 0]) ?_ 2 _ rfl; refine blk_put (cs := #[.int .i64 0, .int .i64 0, .slice none 0 0]) ?_ 1 _ rfl; refine blk_put (cs := #[.int .i64 0, .int .i64 0, .slice none 0 0]) ?_ 0 _ rfl; exact BK174.out) Tryd.underlying24 rfl (by kernel_rfl)) rfl ?_
  exact ⟨_, by rfl, by exact Kd.R_nil _ _ _ _ _, below_set (below_set (below_set HB.out GE174.out) GE174.out) GE174.out⟩
 ·rw [if_neg c2] at H
  have c2b0 : decide (100 < (a0.size : Int)) = false := decide_eq_false c2
  have c2b1 : decide (100 < a0.size) = false := decide_eq_false (by omega)
  clear c2
  obtain ⟨t175, A50, H⟩ := Option.bind_eq_some_iff.mp H
  try dsimp only at H
  have A5 := Aside0.mk A50
  clear A50
  by_cases c6 : 0 < (t175.length : Int)
  ·rw [if_pos c6] at H
   have c6b0 : decide (0 < (t175.length : Int)) = true := decide_eq_true c6
   have c6b1 : decide (0 < t175.length) = true := decide_eq_true (by omega)
   clear c6
   obtain ⟨⟨t180, t181⟩, A70, H⟩ := Option.bind_eq_some_iff.mp H
   try dsimp only at H
   have A7 := Aside0.mk A70
   clear A70
   by_cases c8 : 1 ≤ (t175.length : Int)
   ·rw [if_pos c8] at H
    have c8b0 := eq_true c8
    have c8b1 : decide (1 ≤ (t175.length : Int)) = true := decide_eq_true c8
    clear c8
    obtain ⟨y182, hy182⟩ : ∃ y_ : List ByteArray, y_ = (t175.drop 1) := ⟨_, rfl⟩
    replace H : (ident_Parse.l0 k a0 y182 (y182.length : Int) 0 t180 t181 ([] : List (S50))) = some (r1, r2, r3, r4) := by (have H2_ := (Option.bind_some _ _).symm.trans H; rw [hy182]; with_reducible exact H2_)
    have Ny182 := Aside0.mk hy182
    clear hy182
    have H' := Aside0.mk H
    clear H
    go_enter Tryd.func47, Tryd.ntmps47
    go_wp2_with (first | ((with_reducible refine gate_dst (N := 2) rfl ?_); refine box_event ?hg (N := 2) ?hd (cs := #[.int .i64 0, .int .i64 0, .slice none 0 0]) (t := 24) ?hr ?_; (case hd => rfl); (case hg => rfl); (case hr => (go_simp; done)); intro gb174 hg w9 hbox hb; have BK174 := Aside0.mk (hbox); have GW174 := Aside0.mk ((by rw [hg]; exact (below_size (HB.out)) : w.heap.size ≤ gb174)); have GE174 := Aside0.mk ((by rw [hg]; exact (below_size (HB.out)) : w.heap.size ≤ gb174)); replace HB := Aside0.mk (below_step (HB.out) hb); clear hb hbox hg) | ((with_reducible refine gate_callee (f := 54) rfl ?_); refine goesL_ (some 17) rfl rfl Tryd.func54 (by kernel_rfl) rfl #[.string a0, .string (⟨#[47]⟩ : ByteArray)] rfl (by (try simp only [List.map_toArray, List.map_cons, List.map_nil]); rfl) ?_; (with_reducible refine (strings_Split.calls a0 (⟨#[47]⟩ : ByteArray) t175 _ ?side1 A5.out).mono ?_); (case side1 => exact WH.below HWH_.out (HB.out)); rintro e w10 ⟨v176, rfl, ho0, hb⟩; refine ⟨_, rfl, ?_⟩; have HO177 := Aside0.mk (Kd.R_lower ho0 (below_size (HB.out))); replace BK174 := Aside0.mk (blk_below BK174.out hb); replace HB := Aside0.mk (below_step (HB.out) hb); clear hb ho0) | ((with_reducible refine gate_dst (N := 5) rfl ?_); refine box_event ?hg (N := 5) ?hd (cs := #[.int .i64 0, .int .i64 0, .slice none 0 0]) (t := 24) ?hr ?_; (case hd => rfl); (case hg => rfl); (case hr => (go_simp; done)); intro gb178 hg w11 hbox hb; replace HO177 := Aside0.mk (Kd.R_below (by exact HO177.out) hb); have BK178 := Aside0.mk (hbox); have GW178 := Aside0.mk ((by rw [hg]; exact (below_size (HB.out)) : w.heap.size ≤ gb178)); have GE178 := Aside0.mk ((by rw [hg]; exact (below_size (HB.out)) : w.heap.size ≤ gb178)); replace HB := Aside0.mk (below_step (HB.out) hb); have NB174_178 := Aside0.mk ((by rw [hg]; exact Nat.ne_of_lt (blk_lt BK174.out) : gb174 ≠ gb178)); have NB178_174 := Aside0.mk ((by rw [hg]; exact Nat.ne_of_gt (blk_lt BK174.out) : gb178 ≠ gb174)); replace BK174 := Aside0.mk (blk_below BK174.out hb); clear hb hbox hg; obtain ⟨Ao12, co12, eo12⟩ := Kd.R_slice HO177.out; subst eo12; have p179 : 0 ≤ (0 : Int) := (by omega); have q179 : 0 < (t175.length : Int) := of_decide_eq_true (by (with_reducible assumption)); obtain ⟨ad179, e179, hx179_0⟩ := Kd.at_string (Kd.R_reads' HO177.out).2.2 0 p179 q179; cases e179; have qi179 : (0 < t175.length) = True := eq_true (by omega); (try rw [show ((0 : Int)).toNat = 0 from rfl] at hx179_0); (try rw [Addr.add_zero'] at hx179_0); replace p179 := eq_true p179; replace q179 := eq_true q179) | ((with_reducible refine gate_callee (f := 55) rfl ?_); refine goesL_ (some 22) rfl rfl Tryd.func55 (by kernel_rfl) rfl #[.string (rdOf ByteArray.empty t175 0), .string (⟨#[46]⟩ : ByteArray)] rfl (by (try simp only [List.map_toArray, List.map_cons, List.map_nil]); rfl) ?_; (with_reducible refine (ident_pair.calls k (rdOf ByteArray.empty t175 0) (⟨#[46]⟩ : ByteArray) t180 t181 _ ?side1 A7.out).mono ?_); (case side1 => exact WH.below HWH_.out (HB.out)); rintro e w13 ⟨rfl, hb⟩; refine ⟨_, rfl, ?_⟩; replace HO177 := Aside0.mk (Kd.R_below (by exact HO177.out) hb); replace BK174 := Aside0.mk (blk_below BK174.out hb); replace BK178 := Aside0.mk (blk_below BK178.out hb); replace HB := Aside0.mk (below_step (HB.out) hb); clear hb; have hnb14 := NB178_174.out; have hnc14 := NB174_178.out; obtain ⟨hcz15_0, hcz15_1, hcz15_2⟩ := bc3 BK178.out; obtain ⟨hfz15_0, hfz15_1, hfz15_2⟩ := bf3 BK178.out) | ((with_reducible refine gate_store (t := 3) (p := 25) rfl ?_); refine store_event (t := 3) (p := 25) (v := ?vo_w16) (w1 := (w13.setCell ⟨gb178, 0, none⟩ (.int .i64 t180))) ?hg ?ho ?hn ?hr ?_; (case ho => rfl); (case hg => rfl); (case hn => rfl); (case hr => (go_simp; done)); intro w16 hw; have n0_ : Aside0 (Kd.R Kd.string 9 w16 w.heap.size (fun _ => True) (.slice (some ad179) t175.length co12) t175) := ⟨(by rw [hw]; exact (by exact Kd.R_mono (Kd.R_far (p := ⟨gb178, 0, none⟩) (Kd.R_types HO177.out BK178.out (by decide)) (fun _ hk => hk.2) (.int .i64 t180)) (fun _ hk => trivial)))⟩; have n1_ : Aside0 (w16.heap[gb174]? = some (.cells #[.int .i64 0, .int .i64 0, .slice none 0 0] 24 (0, 0))) := ⟨(by rw [hw]; exact (by refine blk_far ?_ NB174_178.out _; exact BK174.out))⟩; have n2_ : Aside0 (w16.heap[gb178]? = some (.cells #[.int .i64 t180, .int .i64 0, .slice none 0 0] 24 (0, 0))) := ⟨(by rw [hw]; exact (by refine blk_put (cs := #[.int .i64 0, .int .i64 0, .slice none 0 0]) ?_ 0 _ rfl; exact BK178.out))⟩; have n3_ : Aside0 (Below w.heap.size w w16) := ⟨(by rw [hw]; exact (below_set HB.out GE178.out))⟩; clear hw HO177 BK174 BK178 HB; have HO177 := n0_; have BK174 := n1_; have BK178 := n2_; have HB := n3_; clear n0_ n1_ n2_ n3_; obtain ⟨hcz17_0, hcz17_1, hcz17_2⟩ := bc3 BK178.out; obtain ⟨hfz17_0, hfz17_1, hfz17_2⟩ := bf3 BK178.out) | ((with_reducible refine gate_store (t := 3) (p := 26) rfl ?_); refine store_event (t := 3) (p := 26) (v := ?vo_w18) (w1 := (w16.setCell ⟨gb178, 1, none⟩ (.int .i64 t181))) ?hg ?ho ?hn ?hr ?_; (case ho => rfl); (case hg => rfl); (case hn => rfl); (case hr => (go_simp; done)); intro w18 hw; have n0_ : Aside0 (Kd.R Kd.string 9 w18 w.heap.size (fun _ => True) (.slice (some ad179) t175.length co12) t175) := ⟨(by rw [hw]; exact (by exact Kd.R_mono (Kd.R_far (p := ⟨gb178, 1, none⟩) (Kd.R_types HO177.out BK178.out (by decide)) (fun _ hk => hk.2) (.int .i64 t181)) (fun _ hk => trivial)))⟩; have n1_ : Aside0 (w18.heap[gb174]? = some (.cells #[.int .i64 0, .int .i64 0, .slice none 0 0] 24 (0, 0))) := ⟨(by rw [hw]; exact (by refine blk_far ?_ NB174_178.out _; exact BK174.out))⟩; have n2_ : Aside0 (w18.heap[gb178]? = some (.cells #[.int .i64 t180, .int .i64 t181, .slice none 0 0] 24 (0, 0))) := ⟨(by rw [hw]; exact (by refine blk_put (cs := #[.int .i64 t180, .int .i64 0, .slice none 0 0]) ?_ 1 _ rfl; exact BK178.out))⟩; have n3_ : Aside0 (Below w.heap.size w w18) := ⟨(by rw [hw]; exact (below_set HB.out GE178.out))⟩; clear hw HO177 BK174 BK178 HB; have HO177 := n0_; have BK174 := n1_; have BK178 := n2_; have HB := n3_; clear n0_ n1_ n2_ n3_; have q19 : (1 : Int) ≤ ((t175.length : Int) : Int) := of_decide_eq_true (by (with_reducible assumption)); obtain ⟨i019, hi019, _, hsz19, _⟩ := info_parts info9; have hroom19 : t175.length ≤ co12 := (Kd.R_reads' HO177.out).2.1; have hC19 : Kd.C Kd.string _ (some ad179) t175.length t175 := (Kd.R_reads' HO177.out).2.2; have hcut19 := cut_from (P := Tryd.prog) 55 9 .i64 Tryd.underlying55 hi019 1 hsz19 (some ad179) t175.length co12 1 (by omega) q19; have hr19 := Kd.C_drop (m := (1 : Int).toNat) (c := co12) hC19 (by omega) hroom19; obtain ⟨A19, hA19⟩ : ∃ A1, A1 = (if co12 = (1 : Int).toNat then (some ad179) else ((some ad179) : Option Addr).map (·.add ((1 : Int).toNat * 1))) := ⟨_, rfl⟩; obtain ⟨c19, hc19⟩ : ∃ c1, c1 = co12 - (1 : Int).toNat := ⟨_, rfl⟩; have hy19 : y182.length = t175.length - (1 : Int).toNat := (by rw [Ny182.out, List.length_drop] <;> omega); rw [show (t175).drop (1 : Int).toNat = y182 from Ny182.out.symm] at hr19; replace hr19 : Kd.C Kd.string _ A19 y182.length y182 := (by rw [hA19]; exact hr19); rw [← hy19, ← hA19, ← hc19] at hcut19; have HR185 := Aside0.mk hr19; have HC185 := Aside0.mk (show y182.length ≤ c19 from by rw [hy19, hc19]; exact Nat.sub_le_sub_right hroom19 _); clear hr19 hC19 hroom19 hi019 hsz19 hc19; have KY19 := Aside0.mk hy19; have KA19 := Aside0.mk hA19; clear hy19 hA19; have KL19 := Aside0.mk (show 1 ≤ t175.length from by omega); replace q19 := eq_true q19))
    go_loopg [30] k (fun kq v30 w' => ∃ (x30_1 : Int) (x179002_1 : List (S50)) (u179002 : Value), v30 = .int .i64 x30_1 ∧ Aside0 (ident_Parse.l0 kq a0 y182 (y182.length : Int) x30_1 t180 t181 x179002_1 = some (r1, r2, r3, r4)) ∧ Aside0 (kq ≤ k) ∧ Aside0 (Kd.R k50 50 w' w.heap.size (fun _ => True) u179002 x179002_1) ∧ Aside0 (w'.heap[gb174]? = some (.cells #[.int .i64 0, .int .i64 0, (.slice none 0 0)] 24 (0, 0))) ∧ Aside0 (w'.heap[gb178]? = some (.cells #[.int .i64 t180, .int .i64 t181, u179002] 24 (0, 0))) ∧ Aside0 (Kd.R Kd.string 9 w' w.heap.size (fun _ => True) (.slice (some ad179) t175.length co12) t175) ∧ Aside0 (Below w.heap.size w w'))
    case atStart => exact ⟨(0), (([] : List (S50))), (.slice none 0 0), (by rfl), H', ⟨Nat.le_refl _⟩, ⟨by exact Kd.R_nil _ _ _ _ _⟩, ⟨by exact BK174.out⟩, ⟨by exact BK178.out⟩, ⟨by exact HO177.out⟩, ⟨HB.out⟩⟩
    case round =>
     clear H'
     clear c2b0 c2b1 c6b0 c6b1 c8b0 c8b1 q19 hcz15_0 hcz15_1 hcz15_2 hcz17_0 hcz17_1 hcz17_2 hfz15_0 hfz15_1 hfz15_2 hfz17_0 hfz17_1 hfz17_2 hx179_0 p179 q179
     obtain ⟨x30_1, x179002_1, u179002, rfl, HA, HK1, HO_179002, BK174, BK178, HO177, HB⟩ := hrel
     cases gk with
     | zero => exact absurd HA.out (by simp [ident_Parse.l0])
     | succ k1 =>
      have H := HA.out
      clear HA
      simp only [ident_Parse.l0] at H
      by_cases c20 : x30_1 < (y182.length : Int)
      ·rw [if_pos c20] at H
       have c20b0 : decide (x30_1 < (y182.length : Int)) = true := decide_eq_true c20
       clear c20
       by_cases c21 : 0 ≤ x30_1
       ·rw [if_pos c21] at H
        have c21b0 : decide (0 ≤ x30_1) = true := decide_eq_true c21
        clear c21
        by_cases c22 : x30_1 < (y182.length : Int)
        ·rw [if_pos c22] at H
         have c22b0 : decide (x30_1 < (y182.length : Int)) = true := decide_eq_true c22
         clear c22
         obtain ⟨⟨t187, t188⟩, A230, H⟩ := Option.bind_eq_some_iff.mp H
         try dsimp only at H
         have A23 := Aside0.mk A230
         clear A230
         by_cases c24 : x179002_1.length < 8796093022208
         ·rw [if_pos c24] at H
          have LMc24 := Aside0.mk c24
          clear c24
          obtain ⟨y189, hy189⟩ : ∃ y_ : List (S50), y_ = (x179002_1 ++ [(⟨t187, t188⟩ : S50)]) := ⟨_, rfl⟩
          replace H : (ident_Parse.l0 k1 a0 y182 (y182.length : Int) (wrap64 (x30_1 + 1)) t180 t181 y189) = some (r1, r2, r3, r4) := by (rw [hy189]; with_reducible exact H)
          have Ny189 := Aside0.mk hy189
          clear hy189
          have H' := Aside0.mk H
          clear H
          have p186 : 0 ≤ (x30_1 : Int) := of_decide_eq_true (by (with_reducible assumption))
          have q186 : x30_1 < (y182.length : Int) := of_decide_eq_true (by (with_reducible assumption))
          have hr186 := Kd.C_drop (m := (1 : Int).toNat) (c := co12) (Kd.R_reads' HO177.out).2.2 (by have := KL19.out; omega) (Kd.R_reads' HO177.out).2.1
          rw [show (t175).drop (1 : Int).toNat = y182 from Ny182.out.symm] at hr186
          replace hr186 : Kd.C Kd.string _ A19 y182.length y182 := (by rw [KA19.out]; exact hr186)
          have HR185 := Aside0.mk hr186
          clear hr186
          obtain ⟨ad186, e186, hx186_0⟩ := Kd.at_string HR185.out x30_1 p186 q186
          cases e186
          replace p186 := eq_true p186
          replace q186 := eq_true q186
          go_wp2_with (first | ((with_reducible refine gate_callee (f := 55) rfl ?_); refine goesL_ (some 36) rfl rfl Tryd.func55 (by kernel_rfl) rfl #[.string (rdOf ByteArray.empty y182 x30_1), .string (⟨#[64]⟩ : ByteArray)] rfl (by (try simp only [List.map_toArray, List.map_cons, List.map_nil]); rfl) ?_; (with_reducible refine (ident_pair.calls k1 (rdOf ByteArray.empty y182 x30_1) (⟨#[64]⟩ : ByteArray) t187 t188 _ ?side1 A23.out).mono ?_); (case side1 => exact WH.below HWH_.out (HB.out)); rintro e w25 ⟨rfl, hb⟩; refine ⟨_, rfl, ?_⟩; have n0_ := Aside0.mk (Kd.R_below (by exact HO_179002.out) hb); have n1_ := Aside0.mk (blk_below BK174.out hb); have n2_ := Aside0.mk (blk_below BK178.out hb); have n3_ := Aside0.mk (below_step (HB.out) hb); have n9_ := Aside0.mk (Kd.R_below (by exact HO177.out) hb); clear HO177; have HO177 := n9_; clear n9_ HO_179002 BK174 BK178 HB; have HO_179002 := n0_; have BK174 := n1_; have BK178 := n2_; have HB := n3_; clear n0_ n1_ n2_ n3_; clear hb; have hnb26 := NB178_174.out; have hnc26 := NB174_178.out; obtain ⟨hcz27_0, hcz27_1, hcz27_2⟩ := bc3 BK178.out; obtain ⟨hfz27_0, hfz27_1, hfz27_2⟩ := bf3 BK178.out) | ((with_reducible refine gate_builtin (b := .append) (xs := #[.tmp 40, .tmp 44]) rfl ?_); at_builtin; refine Kd.R_append k50 (w0 := w) w.heap.size rfl (.tmp 40) (.tmp 44) 22 50 (.agg #[(.int .i64 0), (.int .i64 0)]) 16 rfl Tryd.underlying22 info50 rfl (by decide) (by omega) u179002 x179002_1 (⟨t187, t188⟩ : S50) [.int .i64 t187, .int .i64 t188] (fun _ => True) (fun _ => False) rfl rfl ?aP (fun _ hk => hk.elim) ?aF ?aO ?aB ?aS ?aL ?_; (case aP => exact k50_mkM _ _ _ (⟨t187, t188⟩ : S50)); (case aB => exact (HB.out)); (case aF => exact (fun _ _ => trivial)); (case aO => exact (by exact HO_179002.out)); (case aS => exact (below_size (HB.out))); (case aL => have := LMc24.out; omega); intro v190 w28 ho hb hg hat; rw [← Ny189.out] at ho; have n0_ := Aside0.mk (blk_grown BK174.out hg (Kd.R_ne HO_179002.out BK174.out (by decide))); have n1_ := Aside0.mk (blk_grown BK178.out hg (Kd.R_ne HO_179002.out BK178.out (by decide))); have n2_ := Aside0.mk (hb); have n3_ := Aside0.mk (ho); have n9_ := Aside0.mk (Kd.R_mono (Kd.R_grown (Kd.R_apart' (by exact HO177.out) (Kd.R_typed (by exact HO_179002.out)) (by decide)) hg (fun k hk => hk.2)) (fun _ _ => trivial)); clear HO177; have HO177 := n9_; clear n9_ BK174 BK178 HB HO_179002; have BK174 := n0_; have BK178 := n1_; have HB := n2_; have HO191 := n3_; clear n0_ n1_ n2_ n3_; clear ho hb hg hat; obtain ⟨Ao29, co29, eo29⟩ := Kd.R_slice HO191.out; subst eo29; obtain ⟨hcz30_0, hcz30_1, hcz30_2⟩ := bc3 BK178.out; obtain ⟨hfz30_0, hfz30_1, hfz30_2⟩ := bf3 BK178.out))
          go_roundg k1
          case measure => have := HK1.out; omega
          case rel => exact ⟨(wrap64 (x30_1 + 1)), (y189), (.slice Ao29 y189.length co29), (by rfl), H', ⟨by have := HK1.out; omega⟩, ⟨by exact Kd.R_mono (Kd.R_far (p := ⟨gb178, 2, none⟩) (Kd.R_types HO191.out BK178.out (by decide)) (fun _ hk => hk.2) (.slice Ao29 y189.length co29)) (fun _ hk => trivial)⟩, ⟨by refine blk_far ?_ NB174_178.out _; exact BK174.out⟩, ⟨by refine blk_put (cs := #[.int .i64 t180, .int .i64 t181, u179002]) ?_ 2 _ rfl; exact BK178.out⟩, ⟨by exact Kd.R_mono (Kd.R_far (p := ⟨gb178, 2, none⟩) (Kd.R_types HO177.out BK178.out (by decide)) (fun _ hk => hk.2) (.slice Ao29 y189.length co29)) (fun _ hk => trivial)⟩, ⟨below_set HB.out GE178.out⟩⟩
         ·rw [if_neg c24] at H
          exact absurd H (by simp)
        ·rw [if_neg c22] at H
         exact absurd H (by simp)
       ·rw [if_neg c21] at H
        exact absurd H (by simp)
      ·rw [if_neg c20] at H
       have c20b0 : decide (x30_1 < (y182.length : Int)) = false := decide_eq_false c20
       clear c20
       obtain ⟨⟨t192, t193⟩, A310, H⟩ := Option.bind_eq_some_iff.mp H
       try dsimp only at H
       have A31 := Aside0.mk A310
       clear A310
       by_cases c32 : t193 = 0
       ·rw [if_pos c32] at H
        have c32b0 : (t193 == 0) = true := beq_iff_eq.mpr c32
        have c32b1 : (t193 != 0) = false := bne_eq_false_iff_eq.mpr c32
        clear c32
        by_cases c33 : t192.toList = a0.toList
        ·rw [if_pos c33] at H
         have c33b0 : (t192.toList == a0.toList) = true := beq_iff_eq.mpr c33
         have c33b1 : (t192.toList != a0.toList) = false := bne_eq_false_iff_eq.mpr c33
         clear c33
         simp only [Option.some.injEq, Prod.mk.injEq] at H
         obtain ⟨rfl, rfl, rfl, rfl⟩ := H
         have hnb34 := NB178_174.out
         have hnc34 := NB174_178.out
         obtain ⟨hcz35_0, hcz35_1, hcz35_2⟩ := bc3 BK178.out
         obtain ⟨hfz35_0, hfz35_1, hfz35_2⟩ := bf3 BK178.out
         obtain ⟨Ao36, co36, eo36⟩ := Kd.R_slice HO_179002.out
         subst eo36
         go_wp2_with (first | ((with_reducible refine gate_callee (f := 22) rfl ?_); refine goesL_ (some 50) rfl rfl Tryd.func22 (by kernel_rfl) rfl #[.agg #[.int .i64 t180, .int .i64 t181, .slice Ao36 x179002_1.length co36]] rfl (by (try simp only [List.map_toArray, List.map_cons, List.map_nil]); rfl) ?_; (with_reducible refine (ident_Show.calls k1 t180 t181 _ _ x179002_1 t192 t193 _ ?side1 ?side2 ?side3 A31.out).mono ?_); (case side1 => exact (Kd.R_reads' HO_179002.out).2.2); (case side2 => exact (Kd.R_reads' HO_179002.out).2.1); (case side3 => exact WH.below HWH_.out (HB.out)); rintro e w37 ⟨rfl, hb⟩; refine ⟨_, rfl, ?_⟩; replace HO_179002 := Aside0.mk (Kd.R_below (by exact HO_179002.out) hb); replace BK174 := Aside0.mk (blk_below BK174.out hb); replace BK178 := Aside0.mk (blk_below BK178.out hb); replace HB := Aside0.mk (below_step (HB.out) hb); clear hb; obtain ⟨hcz38_0, hcz38_1, hcz38_2⟩ := bc3 BK178.out; obtain ⟨hfz38_0, hfz38_1, hfz38_2⟩ := bf3 BK178.out; obtain ⟨hcz39_0, hcz39_1, hcz39_2⟩ := bc3 BK174.out; obtain ⟨hfz39_0, hfz39_1, hfz39_2⟩ := bf3 BK174.out))
         refine bodyPost_ret (results_ct rfl _ _ gb174 24 #[.int .i64 t180, .int .i64 t181, .slice Ao36 x179002_1.length co36] (0, 0) _ rfl (by refine blk_put (cs := #[.int .i64 t180, .int .i64 t181, .slice none 0 0]) ?_ 2 _ rfl; refine blk_put (cs := #[.int .i64 t180, .int .i64 0, .slice none 0 0]) ?_ 1 _ rfl; refine blk_put (cs := #[.int .i64 0, .int .i64 0, .slice none 0 0]) ?_ 0 _ rfl; exact BK174.out) Tryd.underlying24 rfl (by kernel_rfl)) rfl ?_
         exact ⟨_, by rfl, by exact Kd.R_mono (Kd.R_far (p := ⟨gb174, 2, none⟩) (Kd.R_far (p := ⟨gb174, 1, none⟩) (Kd.R_far (p := ⟨gb174, 0, none⟩) (Kd.R_types HO_179002.out BK174.out (by decide)) (fun _ hk => hk.2) (.int .i64 t180)) (fun _ hk => hk.2) (.int .i64 t181)) (fun _ hk => hk.2) (.slice Ao36 x179002_1.length co36)) (fun _ hk => trivial), below_set (below_set (below_set HB.out GE174.out) GE174.out) GE174.out⟩
        ·rw [if_neg c33] at H
         have c33b0 : (t192.toList == a0.toList) = false := beq_eq_false_iff_ne.mpr c33
         have c33b1 : (t192.toList != a0.toList) = true := bne_iff_ne.mpr c33
         simp only [Option.some.injEq, Prod.mk.injEq] at H
         obtain ⟨rfl, rfl, rfl, rfl⟩ := H
         have hnb40 := NB178_174.out
         have hnc40 := NB174_178.out
         obtain ⟨hcz41_0, hcz41_1, hcz41_2⟩ := bc3 BK178.out
         obtain ⟨hfz41_0, hfz41_1, hfz41_2⟩ := bf3 BK178.out
         obtain ⟨Ao42, co42, eo42⟩ := Kd.R_slice HO_179002.out
         subst eo42
         go_wp2_with (first | ((with_reducible refine gate_callee (f := 22) rfl ?_); refine goesL_ (some 50) rfl rfl Tryd.func22 (by kernel_rfl) rfl #[.agg #[.int .i64 t180, .int .i64 t181, .slice Ao42 x179002_1.length co42]] rfl (by (try simp only [List.map_toArray, List.map_cons, List.map_nil]); rfl) ?_; (with_reducible refine (ident_Show.calls k1 t180 t181 _ _ x179002_1 t192 t193 _ ?side1 ?side2 ?side3 A31.out).mono ?_); (case side1 => exact (Kd.R_reads' HO_179002.out).2.2); (case side2 => exact (Kd.R_reads' HO_179002.out).2.1); (case side3 => exact WH.below HWH_.out (HB.out)); rintro e w43 ⟨rfl, hb⟩; refine ⟨_, rfl, ?_⟩; replace HO_179002 := Aside0.mk (Kd.R_below (by exact HO_179002.out) hb); replace BK174 := Aside0.mk (blk_below BK174.out hb); replace BK178 := Aside0.mk (blk_below BK178.out hb); replace HB := Aside0.mk (below_step (HB.out) hb); clear hb; obtain ⟨hcz44_0, hcz44_1, hcz44_2⟩ := bc3 BK174.out; obtain ⟨hfz44_0, hfz44_1, hfz44_2⟩ := bf3 BK174.out))
         refine bodyPost_ret (results_ct rfl _ _ gb174 24 #[.int .i64 0, .int .i64 0, .slice none 0 0] (0, 0) _ rfl (by refine blk_put (cs := #[.int .i64 0, .int .i64 0, .slice none 0 0]) ?_ 2 _ rfl; refine blk_put (cs := #[.int .i64 0, .int .i64 0, .slice none 0 0]) ?_ 1 _ rfl; refine blk_put (cs := #[.int .i64 0, .int .i64 0, .slice none 0 0]) ?_ 0 _ rfl; exact BK174.out) Tryd.underlying24 rfl (by kernel_rfl)) rfl ?_
         exact ⟨_, by rfl, by exact Kd.R_nil _ _ _ _ _, below_set (below_set (below_set HB.out GE174.out) GE174.out) GE174.out⟩
       ·rw [if_neg c32] at H
        have c32b0 : (t193 == 0) = false := beq_eq_false_iff_ne.mpr c32
        have c32b1 : (t193 != 0) = true := bne_iff_ne.mpr c32
        simp only [Option.some.injEq, Prod.mk.injEq] at H
        obtain ⟨rfl, rfl, rfl, rfl⟩ := H
        have hnb45 := NB178_174.out
        have hnc45 := NB174_178.out
        obtain ⟨hcz46_0, hcz46_1, hcz46_2⟩ := bc3 BK178.out
        obtain ⟨hfz46_0, hfz46_1, hfz46_2⟩ := bf3 BK178.out
        obtain ⟨Ao47, co47, eo47⟩ := Kd.R_slice HO_179002.out
        subst eo47
        go_wp2_with (first | ((with_reducible refine gate_callee (f := 22) rfl ?_); refine goesL_ (some 50) rfl rfl Tryd.func22 (by kernel_rfl) rfl #[.agg #[.int .i64 t180, .int .i64 t181, .slice Ao47 x179002_1.length co47]] rfl (by (try simp only [List.map_toArray, List.map_cons, List.map_nil]); rfl) ?_; (with_reducible refine (ident_Show.calls k1 t180 t181 _ _ x179002_1 t192 t193 _ ?side1 ?side2 ?side3 A31.out).mono ?_); (case side1 => exact (Kd.R_reads' HO_179002.out).2.2); (case side2 => exact (Kd.R_reads' HO_179002.out).2.1); (case side3 => exact WH.below HWH_.out (HB.out)); rintro e w48 ⟨rfl, hb⟩; refine ⟨_, rfl, ?_⟩; replace HO_179002 := Aside0.mk (Kd.R_below (by exact HO_179002.out) hb); replace BK174 := Aside0.mk (blk_below BK174.out hb); replace BK178 := Aside0.mk (blk_below BK178.out hb); replace HB := Aside0.mk (below_step (HB.out) hb); clear hb; obtain ⟨hcz49_0, hcz49_1, hcz49_2⟩ := bc3 BK174.out; obtain ⟨hfz49_0, hfz49_1, hfz49_2⟩ := bf3 BK174.out))
        refine bodyPost_ret (results_ct rfl _ _ gb174 24 #[.int .i64 0, .int .i64 0, .slice none 0 0] (0, 0) _ rfl (by refine blk_put (cs := #[.int .i64 0, .int .i64 0, .slice none 0 0]) ?_ 2 _ rfl; refine blk_put (cs := #[.int .i64 0, .int .i64 0, .slice none 0 0]) ?_ 1 _ rfl; refine blk_put (cs := #[.int .i64 0, .int .i64 0, .slice none 0 0]) ?_ 0 _ rfl; exact BK174.out) Tryd.underlying24 rfl (by kernel_rfl)) rfl ?_
        exact ⟨_, by rfl, by exact Kd.R_nil _ _ _ _ _, below_set (below_set (below_set HB.out GE174.out) GE174.out) GE174.out⟩
   ·rw [if_neg c8] at H
    exact absurd H (by simp)
  ·rw [if_neg c6] at H
   exact absurd H (by simp)


/-! ### pack_TakeText: function 56 -/
def pack_TakeText.f (k : Nat) (a0 : ByteArray) (a1 : Int) : Option (ByteArray × Int × Int) := (pack_TakeNumber.f k a0 a1).bind fun bt205 => (if bt205.2.2 = 0 then (if bt205.1 > (IntKind.u64.wrap (wrap64 ((a0.size : Int) - bt205.2.1))) then (some ((⟨#[]⟩ : ByteArray), 0, 10)) else (if 0 ≤ bt205.2.1 then (if bt205.2.1 ≤ (wrap64 (bt205.2.1 + (wrap64 (bt205.1)))) then (if (wrap64 (bt205.2.1 + (wrap64 (bt205.1)))) ≤ (a0.size : Int) then (some (a0.extract (bt205.2.1 : Int).toNat ((wrap64 (bt205.2.1 + (wrap64 (bt205.1)))) : Int).toNat, wrap64 (bt205.2.1 + (wrap64 (bt205.1))), 0)) else (none)) else (none)) else (none))) else (some ((⟨#[]⟩ : ByteArray), 0, bt205.2.2)))
theorem pack_TakeText.mono : ∀ a0 a1 k, LeO (pack_TakeText.f k a0 a1) (pack_TakeText.f (k + 1) a0 a1) := by
 intro a0 a1 k
 unfold pack_TakeText.f
 repeat' first
   | (with_reducible exact pack_TakeNumber.mono _ _ _)
   | (with_reducible exact LeO.refl _)
   | (with_reducible exact LeO.none _)
   | (with_reducible refine LeO.ite ?_ ?_)
   | (with_reducible refine LeO.bind ?_ (fun _ => ?_))
   | exact pack_TakeNumber.mono _ _ _
   | exact LeO.none _
   | refine LeO.ite ?_ ?_
   | refine LeO.bind ?_ (fun _ => ?_)
set_option maxHeartbeats 8000000 in
set_option maxRecDepth 100000 in
theorem pack_TakeText.calls (k : Nat) (a0 : ByteArray) (a1 : Int) (r1 : ByteArray) (r2 : Int) (r3 : Int) (w : World) (h : pack_TakeText.f k a0 a1 = some (r1, r2, r3)) :
  Calls Tryd.prog 56 #[.string a0, .int .i64 a1] w fun e w' => e = .returned (.tuple #[.string r1, .int .i64 r2, .int .i64 r3]) ∧ Drawn0 w w' := by
 have H : ((pack_TakeNumber.f k a0 a1).bind fun bt205 => (if bt205.2.2 = 0 then (if bt205.1 > (IntKind.u64.wrap (wrap64 ((a0.size : Int) - bt205.2.1))) then (some ((⟨#[]⟩ : ByteArray), 0, 10)) else (if 0 ≤ bt205.2.1 then (if bt205.2.1 ≤ (wrap64 (bt205.2.1 + (wrap64 (bt205.1)))) then (if (wrap64 (bt205.2.1 + (wrap64 (bt205.1)))) ≤ (a0.size : Int) then (some (a0.extract (bt205.2.1 : Int).toNat ((wrap64 (bt205.2.1 + (wrap64 (bt205.1)))) : Int).toNat, wrap64 (bt205.2.1 + (wrap64 (bt205.1))), 0)) else (none)) else (none)) else (none))) else (some ((⟨#[]⟩ : ByteArray), 0, bt205.2.2)))) = some (r1, r2, r3) := h
 clear h
 obtain ⟨⟨t205, t206, t207⟩, A30, H⟩ := Option.bind_eq_some_iff.mp H
 try dsimp only at H
 have A3 := Aside0.mk A30
 clear A30
 by_cases c4 : t207 = 0
 ·rw [if_pos c4] at H
  have c4b0 : (t207 == 0) = true := beq_iff_eq.mpr c4
  have c4b1 : (t207 != 0) = false := bne_eq_false_iff_eq.mpr c4
  clear c4
  by_cases c5 : t205 > (IntKind.u64.wrap (wrap64 ((a0.size : Int) - t206)))
  ·rw [if_pos c5] at H
   have c5b0 : decide ((IntKind.u64.wrap (wrap64 ((a0.size : Int) - t206))) < t205) = true := decide_eq_true c5
   clear c5
   simp only [Option.some.injEq, Prod.mk.injEq] at H
   obtain ⟨rfl, rfl, rfl⟩ := H
   go_enter Tryd.func56, Tryd.ntmps56
   go_wp2_with (first | ((with_reducible refine gate_callee (f := 45) rfl ?_); refine goesL_ (some 14) rfl rfl Tryd.func45 (by kernel_rfl) rfl #[.string a0, .int .i64 a1] rfl (by (try simp only [List.map_toArray, List.map_cons, List.map_nil]); rfl) ?_; (with_reducible refine (pack_TakeNumber.calls k a0 a1 t205 t206 t207 _ A3.out).mono ?_); rintro e w' ⟨rfl, ⟨nd, rfl⟩⟩; refine ⟨_, rfl, ?_⟩))
   go_ret3
   exact ⟨by rfl, by repeat (first | exact Drawn0.refl _ | apply Drawn0.step)⟩
  ·rw [if_neg c5] at H
   have c5b0 : decide ((IntKind.u64.wrap (wrap64 ((a0.size : Int) - t206))) < t205) = false := decide_eq_false c5
   clear c5
   by_cases c6 : 0 ≤ t206
   ·rw [if_pos c6] at H
    have c6b0 := eq_true c6
    have c6b1 : decide (0 ≤ t206) = true := decide_eq_true c6
    clear c6
    by_cases c7 : t206 ≤ (wrap64 (t206 + (wrap64 (t205))))
    ·rw [if_pos c7] at H
     have c7b0 := eq_true c7
     have c7b1 : decide (t206 ≤ (wrap64 (t206 + (wrap64 (t205))))) = true := decide_eq_true c7
     by_cases c8 : (wrap64 (t206 + (wrap64 (t205)))) ≤ (a0.size : Int)
     ·rw [if_pos c8] at H
      have c8b0 := eq_true c8
      have c8b1 : decide ((wrap64 (t206 + (wrap64 (t205)))) ≤ (a0.size : Int)) = true := decide_eq_true c8
      simp only [Option.some.injEq, Prod.mk.injEq] at H
      obtain ⟨rfl, rfl, rfl⟩ := H
      go_enter Tryd.func56, Tryd.ntmps56
      go_wp2_with (first | ((with_reducible refine gate_callee (f := 45) rfl ?_); refine goesL_ (some 14) rfl rfl Tryd.func45 (by kernel_rfl) rfl #[.string a0, .int .i64 a1] rfl (by (try simp only [List.map_toArray, List.map_cons, List.map_nil]); rfl) ?_; (with_reducible refine (pack_TakeNumber.calls k a0 a1 t205 t206 t207 _ A3.out).mono ?_); rintro e w' ⟨rfl, ⟨nd, rfl⟩⟩; refine ⟨_, rfl, ?_⟩))
      go_ret3
      exact ⟨by rfl, by repeat (first | exact Drawn0.refl _ | apply Drawn0.step)⟩
     ·rw [if_neg c8] at H
      exact absurd H (by simp)
    ·rw [if_neg c7] at H
     exact absurd H (by simp)
   ·rw [if_neg c6] at H
    exact absurd H (by simp)
 ·rw [if_neg c4] at H
  have c4b0 : (t207 == 0) = false := beq_eq_false_iff_ne.mpr c4
  have c4b1 : (t207 != 0) = true := bne_iff_ne.mpr c4
  simp only [Option.some.injEq, Prod.mk.injEq] at H
  obtain ⟨rfl, rfl, rfl⟩ := H
  go_enter Tryd.func56, Tryd.ntmps56
  go_wp2_with (first | ((with_reducible refine gate_callee (f := 45) rfl ?_); refine goesL_ (some 14) rfl rfl Tryd.func45 (by kernel_rfl) rfl #[.string a0, .int .i64 a1] rfl (by (try simp only [List.map_toArray, List.map_cons, List.map_nil]); rfl) ?_; (with_reducible refine (pack_TakeNumber.calls k a0 a1 t205 t206 t207 _ A3.out).mono ?_); rintro e w' ⟨rfl, ⟨nd, rfl⟩⟩; refine ⟨_, rfl, ?_⟩))
  go_ret3
  exact ⟨by rfl, by repeat (first | exact Drawn0.refl _ | apply Drawn0.step)⟩

/-! ### note_place_text: function 48 -/
def note_place_text.f (k : Nat) (s0_0 : ByteArray) (s0_1 : Int) (s0_2 : Bool) : Option (ByteArray × ByteArray × Int × Bool) := (pack_TakeText.f k s0_0 s0_1).bind fun bt208 => (if s0_2 = true then (some ((⟨#[]⟩ : ByteArray), s0_0, s0_1, true)) else (if bt208.2.2 = 0 then (some (bt208.1, s0_0, bt208.2.1, s0_2)) else (some ((⟨#[]⟩ : ByteArray), s0_0, s0_1, true))))
theorem note_place_text.mono : ∀ a0 a1 a2 k, LeO (note_place_text.f k a0 a1 a2) (note_place_text.f (k + 1) a0 a1 a2) := by
 intro a0 a1 a2 k
 unfold note_place_text.f
 repeat' first
   | (with_reducible exact pack_TakeText.mono _ _ _)
   | (with_reducible exact LeO.refl _)
   | (with_reducible exact LeO.none _)
   | (with_reducible refine LeO.ite ?_ ?_)
   | (with_reducible refine LeO.bind ?_ (fun _ => ?_))
   | exact pack_TakeText.mono _ _ _
   | exact LeO.none _
   | refine LeO.ite ?_ ?_
   | refine LeO.bind ?_ (fun _ => ?_)
set_option maxHeartbeats 8000000 in
set_option maxRecDepth 100000 in
theorem note_place_text.calls (k : Nat) (g : Nat) (s0_0 : ByteArray) (s0_1 : Int) (s0_2 : Bool) (r1 : ByteArray) (r2 : ByteArray) (r3 : Int) (r4 : Bool) (w0 w : World) (hI : IsS69 w0 w g s0_0 s0_1 s0_2) (hB : Below w0.heap.size w0 w) (h : note_place_text.f k s0_0 s0_1 s0_2 = some (r1, r2, r3, r4)) :
  Calls Tryd.prog 48 #[.pointer (some ⟨g, 0, none⟩)] w fun e w' => e = .returned (.string r1) ∧ IsS69 w0 w' g r2 r3 r4 ∧ Below w0.heap.size w0 w' ∧ KeepBut w w' g none := by
 have HI0 := Aside0.mk hI
 have HK := Aside0.mk (KeepBut.refl w g none)
 have HL := Aside0.mk hB.size
 clear hI
 have HW0 := Aside0.mk hB.size
 have HB := Aside0.mk hB
 clear hB
 have H : ((pack_TakeText.f k s0_0 s0_1).bind fun bt208 => (if s0_2 = true then (some ((⟨#[]⟩ : ByteArray), s0_0, s0_1, true)) else (if bt208.2.2 = 0 then (some (bt208.1, s0_0, bt208.2.1, s0_2)) else (some ((⟨#[]⟩ : ByteArray), s0_0, s0_1, true))))) = some (r1, r2, r3, r4) := h
 clear h
 obtain ⟨⟨t208, t209, t210⟩, A20, H⟩ := Option.bind_eq_some_iff.mp H
 try dsimp only at H
 have A2 := Aside0.mk A20
 clear A20
 by_cases c3 : s0_2 = true
 ·subst c3
  have H1 : (some ((⟨#[]⟩ : ByteArray), s0_0, s0_1, true)) = some (r1, r2, r3, r4) := by rw [if_pos rfl] at H; exact H
  clear H
  have H := H1
  clear H1
  simp only [Option.some.injEq, Prod.mk.injEq] at H
  obtain ⟨rfl, rfl, rfl, rfl⟩ := H
  obtain ⟨HGz4, hgz4⟩ := HI0.out
  have hcz4_0 := cellS69_0 HGz4
  have hcz4_1 := cellS69_1 HGz4
  have hcz4_2 := cellS69_2 HGz4
  have hfz4_0 := blk_frozen HGz4 0
  have hfz4_1 := blk_frozen HGz4 1
  have hfz4_2 := blk_frozen HGz4 2
  clear HGz4 hgz4
  go_enter Tryd.func48, Tryd.ntmps48
  go_wp2_with (fail)
  repeat (go_quiet (first | (go_at_call 56; (with_reducible refine (pack_TakeText.calls k s0_0 s0_1 t208 t209 t210 _ A2.out).mono ?_); rintro e w' ⟨rfl, ⟨nd, rfl⟩⟩; (try exact ⟨rfl, _, World.drewN_drewN _ _ _⟩))); try go_wp2_with (fail))
  go_ret
  exact ⟨by rfl, by repeat (with_reducible first | exact HI0.out | apply IsS69.drewN | apply IsS69.set_2), by repeat (with_reducible first | exact HB.out | apply pw_below_drewN | refine below_set ?_ (IsS69.ge HI0.out)), by repeat (with_reducible first | exact HK.out | apply KeepBut.set_ | apply keep_drewN)⟩
 ·replace c3 := Bool.eq_false_iff.mpr c3
  subst c3
  have H1 : (if t210 = 0 then (some (t208, s0_0, t209, false)) else (some ((⟨#[]⟩ : ByteArray), s0_0, s0_1, true))) = some (r1, r2, r3, r4) := by rw [if_neg (show ¬ (false = true) by decide)] at H; exact H
  clear H
  have H := H1
  clear H1
  by_cases c5 : t210 = 0
  ·rw [if_pos c5] at H
   have c5b0 : (t210 == 0) = true := beq_iff_eq.mpr c5
   have c5b1 : (t210 != 0) = false := bne_eq_false_iff_eq.mpr c5
   clear c5
   simp only [Option.some.injEq, Prod.mk.injEq] at H
   obtain ⟨rfl, rfl, rfl, rfl⟩ := H
   obtain ⟨HGz6, hgz6⟩ := HI0.out
   have hcz6_0 := cellS69_0 HGz6
   have hcz6_1 := cellS69_1 HGz6
   have hcz6_2 := cellS69_2 HGz6
   have hfz6_0 := blk_frozen HGz6 0
   have hfz6_1 := blk_frozen HGz6 1
   have hfz6_2 := blk_frozen HGz6 2
   clear HGz6 hgz6
   go_enter Tryd.func48, Tryd.ntmps48
   go_wp2_with (fail)
   repeat (go_quiet (first | (go_at_call 56; (with_reducible refine (pack_TakeText.calls k s0_0 s0_1 t208 t209 t210 _ A2.out).mono ?_); rintro e w' ⟨rfl, ⟨nd, rfl⟩⟩; (try exact ⟨rfl, _, World.drewN_drewN _ _ _⟩))); try go_wp2_with (fail))
   go_ret
   exact ⟨by rfl, by repeat (with_reducible first | exact HI0.out | apply IsS69.drewN | apply IsS69.set_1), by repeat (with_reducible first | exact HB.out | apply pw_below_drewN | refine below_set ?_ (IsS69.ge HI0.out)), by repeat (with_reducible first | exact HK.out | apply KeepBut.set_ | apply keep_drewN)⟩
  ·rw [if_neg c5] at H
   have c5b0 : (t210 == 0) = false := beq_eq_false_iff_ne.mpr c5
   have c5b1 : (t210 != 0) = true := bne_iff_ne.mpr c5
   simp only [Option.some.injEq, Prod.mk.injEq] at H
   obtain ⟨rfl, rfl, rfl, rfl⟩ := H
   obtain ⟨HGz7, hgz7⟩ := HI0.out
   have hcz7_0 := cellS69_0 HGz7
   have hcz7_1 := cellS69_1 HGz7
   have hcz7_2 := cellS69_2 HGz7
   have hfz7_0 := blk_frozen HGz7 0
   have hfz7_1 := blk_frozen HGz7 1
   have hfz7_2 := blk_frozen HGz7 2
   clear HGz7 hgz7
   go_enter Tryd.func48, Tryd.ntmps48
   go_wp2_with (fail)
   repeat (go_quiet (first | (go_at_call 56; (with_reducible refine (pack_TakeText.calls k s0_0 s0_1 t208 t209 t210 _ A2.out).mono ?_); rintro e w' ⟨rfl, ⟨nd, rfl⟩⟩; (try exact ⟨rfl, _, World.drewN_drewN _ _ _⟩))); try go_wp2_with (fail))
   go_ret
   exact ⟨by rfl, by repeat (with_reducible first | exact HI0.out | apply IsS69.drewN | apply IsS69.set_2), by repeat (with_reducible first | exact HB.out | apply pw_below_drewN | refine below_set ?_ (IsS69.ge HI0.out)), by repeat (with_reducible first | exact HK.out | apply KeepBut.set_ | apply keep_drewN)⟩

end Go.Proofs.YtlaeihdldofkcaaDoor.PN

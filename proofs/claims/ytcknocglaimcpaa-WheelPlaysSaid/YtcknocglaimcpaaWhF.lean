/- slices.DeleteFunc with Drop's closure, where a timer is taken out. -/
import Derived.Test.YtcknocglaimcpaaWhE
import Derived.Lib.SliceRun
namespace Go.Proofs.Ytcknocglaimcpaa.WA
open Go.RowKit Go.Proofs.YtcknocglaimcpaaW.PrintWords Go.Proofs.YtcknocglaimcpaaW.PrintLast Go.Proofs.YtcknocglaimcpaaW.PrintMore
open Go.Proofs.Ytcknocglaimcpaa.PW Go.Proofs.Ytcknocglaimcpaa.Wh
set_option linter.unusedVariables false
set_option linter.unusedSimpArgs false
set_option maxHeartbeats 8000000
set_option maxRecDepth 100000
/-- The closure, in whatever world holds the timer. -/
theorem same_any (y : S38) (g : Nat) (x : S38) (w : World) (h0 : w.cell? ⟨g, 0, none⟩ = some (.string y.f0)) (h1 : w.cell? ⟨g, 1, none⟩ = some (.int .i64 y.f1)) :
    Calls Try.prog 31 #[.agg #[.string x.f0, .int .i64 x.f1], .pointer (some ⟨g, 0, none⟩)] w fun e w' => e = .returned (.bool (isT y x)) ∧ Below w.heap.size w w' :=
  (same_calls w x y g h0 h1).mono fun e w' ⟨he, hw⟩ => ⟨he, by rw [hw]; exact below_alloc (Below.refl _ _) _⟩
theorem grown_cells (g : Nat) : ∀ (vs : List Value) (o : Nat) (w : World), w.grownBy (w.setCells g o vs) (some g)
  | [], _, w => World.grownBy.refl w _
  | v :: r, o, w => (⟨rfl, rfl, rfl, by simp, fun i _ hi => Below.heap_setCell w _ v i (fun e => hi (by rw [e]))⟩ : w.grownBy (w.setCell ⟨g, o, none⟩ v) (some g)).trans (grown_cells g r (o + 1) _)
theorem add_z (g m : Nat) : (⟨g, 0, none⟩ : Addr).add m = ⟨g, m, none⟩ := by unfold Addr.add; split <;> simp_all
theorem delete_some (w : World) (base : Nat) (ok : Nat → Prop) (g0 c : Nat) (xs : List S38) (y : S38) (g : Nat) (hR : k38.R 38 w base ok (.slice (some ⟨g0, 0, none⟩) xs.length c) xs) (hl : xs.length ≤ 1000000) (hok : ¬ ok g)
    (h0 : w.cell? ⟨g, 0, none⟩ = some (.string y.f0)) (h1 : w.cell? ⟨g, 1, none⟩ = some (.int .i64 y.f1)) (k : Nat) (hk : k < xs.length) (hix : ixT y xs 0 = (k : Int)) :
    Calls Try.prog 30 #[.slice (some ⟨g0, 0, none⟩) xs.length c, .func (.func 31) #[] #[.pointer (some ⟨g, 0, none⟩)]] w fun e w' => e = .returned (.slice (some ⟨g0, 0, none⟩) (xs.filter fun x => !isT y x).length c) ∧
      k38.R 38 w' base ok (.slice (some ⟨g0, 0, none⟩) (xs.filter fun x => !isT y x).length c) (xs.filter fun x => !isT y x) ∧ w.grownBy w' (some g0) := by
  have hu38 := Try.underlying38
  have hne : g ≠ g0 := fun e => hok (hR.1 g (by rw [e]; rfl))
  have hcall := index_calls w (some ⟨g0, 0, none⟩) c xs y g (Kd.R_reads' hR).2.2 hl h0 h1
  rw [hix] at hcall
  have hg : g < w.heap.size := World.block_lt_of_cell? _ _ h0
  have HR := Aside0.mk hR
  have HX := Aside0.mk (And.intro hl (And.intro hok (And.intro hne (And.intro hg (And.intro h0 (And.intro h1 (And.intro hk hix)))))))
  have hkb : (((k : Int)) == -1) = false := beq_eq_false_iff_ne.2 (by omega)
  have hw1 : Aside0 (wrap64 ((k : Int) + 1) = ((k + 1 : Nat) : Int)) := ⟨by rw [wrap64_is (by omega) (by omega)]; omega⟩
  clear hR hl hok hne hg h0 h1 hk hix
  go_enter Try.func30, Try.ntmps30
  go_wp2_with (go_at_call 37; refine hcall.mono ?_; rintro e w1 ⟨rfl, hb⟩; have HB := Aside0.mk hb; clear hb)
  go_loopg [5, 6] (xs.length + 1) (fun kq v5 v6 w' => ∃ (i j : Nat) (cur : List S38), v5 = .int .i64 i ∧ v6 = .int .i64 j ∧ Aside0 (xs.length - j < kq) ∧ Aside0 (i < j ∧ j ≤ xs.length ∧ cur.length = xs.length ∧ cur.take i = (xs.take j).filter (fun x => !isT y x) ∧ cur.drop j = xs.drop j) ∧ Aside0 (k38.R 38 w' base ok (.slice (some ⟨g0, 0, none⟩) xs.length c) cur) ∧ Aside0 (w.grownBy w' (some g0)))
  case atStart =>
    refine ⟨k, k + 1, xs, rfl, by first | rw [hw1.out] | rfl, ⟨by omega⟩, ⟨by omega, by have := HX.out; omega, rfl, ?_, rfl⟩, ⟨Kd.R_below HR.out HB.out⟩, ⟨?_⟩⟩
    · have hk := HX.out.2.2.2.2.2.2.1
      obtain ⟨j, _, e, hlo, hhi⟩ := ixT_some y xs 0 (by rw [HX.out.2.2.2.2.2.2.2]; omega)
      rw [HX.out.2.2.2.2.2.2.2] at e
      obtain rfl : k = j := by omega
      have e1 : (xs.take k).filter (fun x => !isT y x) = xs.take k := by
        rw [List.filter_eq_self]
        intro x hx
        obtain ⟨m, hm, rfl⟩ := List.mem_iff_getElem.1 hx
        rw [List.length_take] at hm
        rw [List.getElem_take, hlo m (by omega) (by omega)]
        rfl
      rw [List.take_succ_eq_append_getElem hk, List.filter_append, e1]
      simp [hhi hk]
    · exact ⟨HB.out.os, HB.out.tape, HB.out.output, HB.out.size, fun i hi _ => HB.out.block i hi⟩
  case round =>
    obtain ⟨i, j, cur, rfl, rfl, HM, HI, HRc, HG⟩ := hrel
    by_cases hj : j < xs.length
    case neg =>
      have hjb : decide (j < xs.length) = false := decide_eq_false hj
      have hin : i < xs.length := by have := HI.out; omega
      obtain ⟨hq_, hnc, hCr⟩ := Kd.R_reads' HRc.out
      clear hq_
      have hcl : cur.length = xs.length := HI.out.2.2.1
      have hcells : ∀ m, m < xs.length * 2 → ∃ u, wr.cell? ⟨g0, m, none⟩ = some u := by
        intro m hm
        obtain ⟨ad, hA, c0, c1⟩ := at_T38 hCr ((m / 2 : Nat) : Int) (by omega) (by omega)
        obtain rfl : ad = ⟨g0, 0, none⟩ := (Option.some.inj hA).symm
        rw [Int.toNat_natCast, add_z] at c0 c1
        rcases Nat.mod_two_eq_zero_or_one m with e | e
        · have e2 : m / 2 * 2 = m := by omega
          rw [e2] at c0
          exact ⟨_, c0⟩
        · have e2 : m / 2 * 2 + 1 = m := by omega
          rw [e2] at c1
          exact ⟨_, c1⟩
      obtain ⟨g', cap', he, _, _, cells, hcb⟩ := Kd.R_form HRc.out (by omega)
      have hclr : ∀ ty, (Builtin.clear_ #[35] ty #[.slice (some ⟨g0, i * 2, none⟩) (xs.length - i) (c - i)]).run Try.prog wr = .ok (.tuple #[]) (wr.setCells g0 (i * 2) (zs (xs.length - i))) := fun ty =>
        run_clear_two wr ty g0 (i * 2) (xs.length - i) (c - i) (by omega) (fun m hm => by obtain ⟨u, hu⟩ := hcells (i * 2 + m) (by omega); rw [hu]; rfl) (fun m hm => by
          obtain rfl : g' = g0 := by injection he with h1; injection h1 with h1; injection h1 with h1; exact h1.symm
          exact blk_frozen hcb _)
      have hci : (c = i) = False := eq_false (by omega)
      have hil : (i : Int) ≤ (xs.length : Int) := by omega
      have HZ := Aside0.mk (R_zero (xs.length - i) i wr cur rfl (by omega) HRc.out hcells)
      have HNC := Aside0.mk (And.intro hnc hcl)
      have hic : i ≤ c := by omega
      clear hcells hCr he hcb hnc hcl
      go_wp2
      have HF : Aside0 (cur.take i = xs.filter (fun x => !isT y x)) := ⟨by
        have := HI.out.2.2.2.1
        rw [List.take_of_length_le (l := xs) (by omega)] at this
        exact this⟩
      have HL : Aside0 (i = (xs.filter fun x => !isT y x).length) := ⟨by rw [← HF.out, List.length_take]; have := HNC.out; have := HI.out.1; have := HI.out.2.1; omega⟩
      go_ret
      refine ⟨?_, ?_, HG.out.trans (grown_cells _ _ _ _)⟩
      · rw [← HL.out]; rfl
      · have h := Kd.R_take HZ.out (m := i) (by rw [List.length_append, List.length_take]; have := HNC.out; omega)
        rw [List.take_append_of_le_length (by rw [List.length_take]; have := HNC.out; omega), List.take_take, Nat.min_self, HF.out] at h
        rw [← HL.out]
        exact h
    have hjb : decide (j < xs.length) = true := decide_eq_true hj
    have hcl : cur.length = xs.length := HI.out.2.2.1
    obtain ⟨ad, hA, c0, c1⟩ := at_T38 (Kd.R_reads' HRc.out).2.2 (j : Int) (by omega) (by omega)
    obtain rfl : ad = ⟨g0, 0, none⟩ := (Option.some.inj hA).symm
    have hrd : Aside0 (rd_T38 cur (j : Int) = cur[j]'(by omega)) := ⟨by unfold rd_T38; simp [List.getD, hcl, hj]⟩
    rw [hrd.out, Int.toNat_natCast, add_z] at c0 c1
    generalize hx : cur[j]'(by omega) = x at c0 c1
    have HX2 : Aside0 (cur[j]? = some x) := ⟨by rw [List.getElem?_eq_getElem (by omega), hx]⟩
    clear hx hA hrd
    have hg0 : wr.cell? ⟨g, 0, none⟩ = some (.string y.f0) := HG.out.cell HX.out.2.2.2.2.1 (fun e => HX.out.2.2.1 (Option.some.inj e))
    have hg1 : wr.cell? ⟨g, 1, none⟩ = some (.int .i64 y.f1) := HG.out.cell HX.out.2.2.2.2.2.1 (fun e => HX.out.2.2.1 (Option.some.inj e))
    have HGG := Aside0.mk (And.intro hg0 hg1)
    clear hg0 hg1
    have E1 : Aside0 (wrap64 ((j : Int) + 1) = ((j + 1 : Nat) : Int)) := ⟨by rw [wrap64_is (by have := HX.out.1; omega) (by have := HX.out.1; omega)]; omega⟩
    have E2 : Aside0 (wrap64 ((i : Int) + 1) = ((i + 1 : Nat) : Int)) := ⟨by have h1 := HX.out.1; have h2 := HI.out.1; rw [wrap64_is (by omega) (by omega)]; omega⟩
    have EX : Aside0 (xs[j]? = some x) := ⟨by
      have h := HX2.out
      have e := HI.out.2.2.2.2
      have h1 : (cur.drop j)[0]? = some x := by rw [List.getElem?_drop]; exact h
      rw [e, List.getElem?_drop] at h1
      exact h1⟩
    have ED : Aside0 (cur.drop (j + 1) = xs.drop (j + 1)) := ⟨by
      have e := congrArg (List.drop 1) HI.out.2.2.2.2
      rw [List.drop_drop, List.drop_drop] at e
      exact e⟩
    have ET : Aside0 ((xs.take (j + 1)).filter (fun x => !isT y x) = (xs.take j).filter (fun x => !isT y x) ++ [x].filter (fun x => !isT y x)) := ⟨by
      have h := EX.out
      rw [List.getElem?_eq_getElem hj] at h
      rw [List.take_succ_eq_append_getElem hj, List.filter_append, Option.some.inj h]⟩
    have hin : i < xs.length := by have := HI.out.1; omega
    obtain ⟨u0, u1, HU⟩ : ∃ u0 u1, Aside0 (wr.cell? ⟨g0, i * 2, none⟩ = some u0 ∧ wr.cell? ⟨g0, i * 2 + 1, none⟩ = some u1) := by
      obtain ⟨ad, hA, c0, c1⟩ := at_T38 (Kd.R_reads' HRc.out).2.2 (i : Int) (by omega) (by omega)
      obtain rfl : ad = ⟨g0, 0, none⟩ := (Option.some.inj hA).symm
      rw [Int.toNat_natCast, add_z] at c0 c1
      exact ⟨_, _, ⟨c0, c1⟩⟩
    have H8 : Aside0 (∀ w8, Below (wr.alloc (.cells #[.string x.f0, .int .i64 x.f1] 38)).heap.size (wr.alloc (.cells #[.string x.f0, .int .i64 x.f1] 38)) w8 →
        w8.cell? ⟨wr.heap.size, 0, none⟩ = some (.string x.f0) ∧ w8.cell? ⟨wr.heap.size, 1, none⟩ = some (.int .i64 x.f1) ∧ w8.cell? ⟨g0, i * 2, none⟩ = some u0 ∧ w8.cell? ⟨g0, i * 2 + 1, none⟩ = some u1 ∧ w8.frozen? ⟨g0, i * 2, none⟩ = false ∧ w8.frozen? ⟨g0, i * 2 + 1, none⟩ = false) := ⟨by
      intro w8 hb8
      have hbk : w8.heap[wr.heap.size]? = some (.cells #[.string x.f0, .int .i64 x.f1] 38 (0, 0)) := by
        rw [hb8.block wr.heap.size (by simp)]
        exact blk_new _ _
      obtain ⟨g', cap', he, _, hlt, cells, hcb⟩ := Kd.R_form HRc.out (by omega)
      obtain rfl : g0 = g' := by injection he with h1; injection h1 with h1; injection h1 with h1
      have hlt2 : g0 < (wr.alloc (.cells #[.string x.f0, .int .i64 x.f1] 38)).heap.size := by simp; omega
      have hcb8 : w8.heap[g0]? = some (.cells cells 38 (0, 0)) := by
        rw [hb8.block g0 hlt2]
        exact blk_alloc hcb _
      have hq : w8.heap[g0]? = wr.heap[g0]? := by rw [hcb8, hcb]
      exact ⟨(blk_cell hbk 0).trans rfl, (blk_cell hbk 1).trans rfl, (cell_blk hq _).trans HU.out.1, (cell_blk hq _).trans HU.out.2, blk_frozen hcb8 _, blk_frozen hcb8 _⟩⟩
    cases hb : isT y x with
    | true =>
      have hs : Calls Try.prog 31 #[.agg #[.string x.f0, .int .i64 x.f1], .pointer (some ⟨g, 0, none⟩)] (wr.alloc (.cells #[.string x.f0, .int .i64 x.f1] 38)) fun e w' => e = .returned (.bool true) ∧ Below (wr.alloc (.cells #[.string x.f0, .int .i64 x.f1] 38)).heap.size (wr.alloc (.cells #[.string x.f0, .int .i64 x.f1] 38)) w' := by
        have h := same_any y g x (wr.alloc (.cells #[.string x.f0, .int .i64 x.f1] 38)) (Lib.cell?_alloc_some _ HGG.out.1) (Lib.cell?_alloc_some _ HGG.out.2)
        rw [hb] at h
        exact h
      have HCL := Aside0.mk hcl
      clear hcl
      go_wp2_with (go_at_call 31; refine hs.mono ?_; rintro e w8 ⟨rfl, hb8⟩; have HB8 := Aside0.mk hb8; clear hb8)
      go_roundg (gk - 1)
      case measure => have := HM.out; omega
      case rel =>
        refine ⟨i, j + 1, cur, rfl, by first | rw [E1.out] | rfl, ⟨by have := HM.out; omega⟩, ⟨by have := HI.out.1; omega, by omega, HI.out.2.2.1, ?_, ED.out⟩, ⟨Kd.R_below (Kd.R_below HRc.out (below_alloc (Below.refl _ _) _)) HB8.out⟩, ⟨(HG.out.trans (World.grownBy_alloc _ _ _)).trans ⟨HB8.out.os, HB8.out.tape, HB8.out.output, HB8.out.size, fun m hm _ => HB8.out.block m hm⟩⟩⟩
        rw [ET.out, HI.out.2.2.2.1]
        simp [hb]
    | false =>
      have hs : Calls Try.prog 31 #[.agg #[.string x.f0, .int .i64 x.f1], .pointer (some ⟨g, 0, none⟩)] (wr.alloc (.cells #[.string x.f0, .int .i64 x.f1] 38)) fun e w' => e = .returned (.bool false) ∧ Below (wr.alloc (.cells #[.string x.f0, .int .i64 x.f1] 38)).heap.size (wr.alloc (.cells #[.string x.f0, .int .i64 x.f1] 38)) w' := by
        have h := same_any y g x (wr.alloc (.cells #[.string x.f0, .int .i64 x.f1] 38)) (Lib.cell?_alloc_some _ HGG.out.1) (Lib.cell?_alloc_some _ HGG.out.2)
        rw [hb] at h
        exact h
      have HCL := Aside0.mk hcl
      clear hcl
      go_wp2_with (go_at_call 31; refine hs.mono ?_; rintro e w8 ⟨rfl, hb8⟩; obtain ⟨l0, l1, d0, d1, f0, f1⟩ := H8.out w8 hb8; have HB8 := Aside0.mk hb8; clear hb8)
      have hR8 := Kd.R_below (Kd.R_below HRc.out (below_alloc (Below.refl _ _) (.cells #[.string x.f0, .int .i64 x.f1] 38))) HB8.out
      have hcc : ∀ (m : Nat) (u : Value), [u0, u1][m]? = some u → w8.cell? ⟨g0, ((i : Nat) : Int).toNat * k38.sz + m, none⟩ = some u := by
        intro m u hm
        rw [Int.toNat_natCast]
        match m with
        | 0 => simp at hm; subst hm; exact d0
        | 1 => simp at hm; subst hm; exact d1
        | m + 2 => simp at hm
      obtain ⟨hS, hSg⟩ := Kd.R_seg hR8 ((i : Nat) : Int) (by omega) (by omega) (c := [u0, u1]) (seg := [.string x.f0, .int .i64 x.f1]) (j := 0) rfl hcc (show 0 + 2 ≤ 2 by decide) (x' := x) (okp := fun _ => False) (k38_mkM _ _ _ x) (fun _ hk => hk.elim)
      rw [Int.toNat_natCast] at hS hSg
      have HS := Aside0.mk (And.intro hS hSg)
      clear hS hSg hR8 hcc
      go_roundg (gk - 1)
      case measure => have := HM.out; omega
      case rel =>
        refine ⟨i + 1, j + 1, cur.set i x, by first | rw [E2.out] | rfl, by first | rw [E1.out] | rfl, ⟨by have := HM.out; omega⟩, ⟨by have := HI.out.1; omega, by omega, by rw [List.length_set]; exact HI.out.2.2.1, ?_, ?_⟩, ⟨HS.out.1⟩, ⟨((HG.out.trans (World.grownBy_alloc _ _ _)).trans ⟨HB8.out.os, HB8.out.tape, HB8.out.output, HB8.out.size, fun m hm _ => HB8.out.block m hm⟩).trans HS.out.2⟩⟩
        · have hlc := HCL.out
          rw [ET.out, ← HI.out.2.2.2.1, List.take_succ_eq_append_getElem (by rw [List.length_set]; omega), List.getElem_set_self, List.take_set_of_le (Nat.le_refl i)]
          simp [hb]
        · rw [List.drop_set_of_lt (by have := HI.out.1; omega)]
          exact ED.out
end Go.Proofs.Ytcknocglaimcpaa.WA

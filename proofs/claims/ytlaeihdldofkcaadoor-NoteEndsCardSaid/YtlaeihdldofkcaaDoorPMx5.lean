/- The machine side of this seat's laws: plain functions, and proofs that the calls do what they say; written by a program of this session over the translation; no conditions beyond those typed. -/
import Derived.Test.YtlaeihdldofkcaaDoorPMx0
import Derived.Test.YtlaeihdldofkcaaDoorPMx2
import Derived.Test.YtlaeihdldofkcaaDoorPMx3
import Derived.Test.YtlaeihdldofkcaaDoorPMx4
namespace Go.Proofs.YtlaeihdldofkcaaDoor.PN
open Go.RowKit Go.Proofs.YtlaeihdldofkcaaDoorW.PrintWords Go.Proofs.YtlaeihdldofkcaaDoorW.PrintLast Go.Proofs.YtlaeihdldofkcaaDoorW.PrintMore
attribute [local go_sem] max2_int min2_int max_two min_two max_three min_three max_four min_four   -- for this text's walks alone
set_option linter.unusedVariables false
set_option linter.unusedSimpArgs false

/-! ### note_Encode: function 14 -/
def note_Encode.putn (k : Nat) (s : ByteArray) (n : Int) : Option ByteArray := (pack_Number.f k (IntKind.u64.wrap n)).bind fun t => if s.size + t.size ≤ 9223372036854775807 then some (s ++ t) else none
theorem note_Encode.putn_mono (s : ByteArray) (n : Int) (k : Nat) : LeO (note_Encode.putn k s n) (note_Encode.putn (k + 1) s n) := by
 unfold note_Encode.putn
 exact LeO.bind (pack_Number.mono _ _) (fun _ => LeO.refl _)
set_option maxHeartbeats 8000000 in
set_option maxRecDepth 100000 in
theorem note_Encode.put_calls (k : Nat) (g : Nat) (s q : ByteArray) (n : Int) (w : World) (hB : w.heap[g]? = some (.cells #[.string s] 9 (0, 0))) (h : note_Encode.putn k s n = some q) :
  Calls Tryd.prog 30 #[.int .i64 n, .pointer (some ⟨g, 0, none⟩)] w fun e w' => e = .returned (.tuple #[]) ∧ ∃ w1, Below w.heap.size w w1 ∧ w' = w1.setCell ⟨g, 0, none⟩ (.string q) := by
 unfold note_Encode.putn at h
 obtain ⟨t, ht, h⟩ := Option.bind_eq_some_iff.1 h
 by_cases hs : s.size + t.size ≤ 9223372036854775807
 case neg => rw [if_neg hs] at h; cases h
 rw [if_pos hs] at h
 obtain rfl := Option.some.inj h
 have HT := Aside0.mk ht
 have HBB := Aside0.mk hB
 have HS := Aside0.mk hs
 have hc0 : w.cell? ⟨g, 0, none⟩ = some (.string s) := blk_cell hB 0
 have hf0 : w.frozen? ⟨g, 0, none⟩ = false := blk_frozen hB 0
 have hs1 : (9223372036854775807 < s.size + t.size) = False := eq_false (by omega)
 clear ht hB h
 go_enter Tryd.func30, Tryd.ntmps30
 go_wp2
 go_region_law (go_simp; go_at_call 31; refine (pack_Number.calls k (IntKind.u64.wrap n) t _ HT.out).mono ?_; rintro e w1 ⟨rfl, hb⟩; have hc1 : w1.cell? ⟨g, 0, none⟩ = some (.string s) := (hb.cell (p := ⟨g, 0, none⟩) (blk_lt HBB.out)).trans (blk_cell HBB.out 0); have hf1 : w1.frozen? ⟨g, 0, none⟩ = false := (hb.frozen (p := ⟨g, 0, none⟩) (blk_lt HBB.out)).trans (blk_frozen HBB.out 0); have HD := Aside0.mk hb; clear hb)
 all_goals
  refine bodyPost_end (results_none rfl _ _ _) rfl ?_
  exact ⟨rfl, _, below_step (below_drew1 (Below.refl _ _)) HD.out, rfl⟩
def note_Encode.puts (k : Nat) : ByteArray → List Int → Option ByteArray
 | s, [] => some s
 | s, n :: l => (note_Encode.putn k s n).bind fun t => note_Encode.puts k t l
theorem note_Encode.puts_mono (k : Nat) : ∀ (l : List Int) (s : ByteArray), LeO (note_Encode.puts k s l) (note_Encode.puts (k + 1) s l)
 | [], s => LeO.refl _
 | n :: l, s => LeO.bind (note_Encode.putn_mono s n k) (fun t => note_Encode.puts_mono k l t)
def note_Encode.f (k : Nat) (a0_0 a0_1 a0_2 a0_3 a0_4 a0_5 a0_6 a0_7 a0_8 : Int) (l0_9 : List S50) (a0_10 : ByteArray) (a0_11 : Int) : Option (ByteArray × Int) :=
 (note_Frame.f k a0_0 a0_1 a0_2 a0_3 a0_4 a0_5 a0_6 a0_7 a0_8 l0_9 a0_10 a0_11).bind fun e => if e = 0 then (note_Encode.puts k ⟨#[]⟩ [a0_0, a0_1, a0_2, a0_3, a0_4, a0_5]).bind fun s => (if 0 < a0_3 then (ident_Show.f k a0_7 a0_8 l0_9).bind fun id => (note_Encode.putn k s a0_6).bind fun s1 => (pack_Text.f k id.1).bind fun t1 => (pack_Text.f k a0_10).bind fun t2 => (if t1.size + t2.size ≤ 9223372036854775807 ∧ s1.size + (t1.size + t2.size) ≤ 9223372036854775807 then (note_Encode.putn k (s1 ++ (t1 ++ t2)) a0_11).bind fun s2 => seal_Seal.f k 1 s2 else none) else seal_Seal.f k 1 s) else some (⟨#[]⟩, e)
theorem note_Encode.mono : ∀ a0_0 a0_1 a0_2 a0_3 a0_4 a0_5 a0_6 a0_7 a0_8 l0_9 a0_10 a0_11 k, LeO (note_Encode.f k a0_0 a0_1 a0_2 a0_3 a0_4 a0_5 a0_6 a0_7 a0_8 l0_9 a0_10 a0_11) (note_Encode.f (k + 1) a0_0 a0_1 a0_2 a0_3 a0_4 a0_5 a0_6 a0_7 a0_8 l0_9 a0_10 a0_11) := by
 intro a0_0 a0_1 a0_2 a0_3 a0_4 a0_5 a0_6 a0_7 a0_8 l0_9 a0_10 a0_11 k
 unfold note_Encode.f
 refine LeO.bind (note_Frame.mono _ _ _ _ _ _ _ _ _ _ _ _ _) (fun _ => LeO.ite (LeO.bind (note_Encode.puts_mono k _ _) (fun s => LeO.ite (LeO.bind (ident_Show.mono _ _ _ _) (fun id => LeO.bind (note_Encode.putn_mono _ _ k) (fun s1 => LeO.bind (pack_Text.mono _ _) (fun t1 => LeO.bind (pack_Text.mono _ _) (fun t2 => LeO.ite (LeO.bind (note_Encode.putn_mono _ _ k) (fun s2 => seal_Seal.mono _ _ _)) (LeO.none _)))))) (seal_Seal.mono _ _ _))) (LeO.refl _))
set_option maxHeartbeats 8000000 in
set_option maxRecDepth 100000 in
theorem note_Encode.calls (k : Nat) (a0_0 a0_1 a0_2 a0_3 a0_4 a0_5 a0_6 a0_7 a0_8 : Int) (A0_9 : Option Addr) (c0_9 : Nat) (l0_9 : List (S50)) (a0_10 : ByteArray) (a0_11 : Int) (r1 : ByteArray) (r2 : Int) (w : World) (hr0_9 : Kd.C k50 w A0_9 l0_9.length l0_9) (hc0_9 : l0_9.length ≤ c0_9) (hw_ : WH w) (h : note_Encode.f k a0_0 a0_1 a0_2 a0_3 a0_4 a0_5 a0_6 a0_7 a0_8 l0_9 a0_10 a0_11 = some (r1, r2)) :
  Calls Tryd.prog 14 #[.agg #[.int .i64 a0_0, .int .i64 a0_1, .int .i64 a0_2, .int .i64 a0_3, .int .i64 a0_4, .int .i64 a0_5, .int .i64 a0_6, .int .i64 a0_7, .int .i64 a0_8, .slice A0_9 l0_9.length c0_9, .string a0_10, .int .i64 a0_11]] w fun e w' => e = .returned (.tuple #[.string r1, .int .i64 r2]) ∧ Below w.heap.size w w' := by
 have hu1 := Tryd.underlying24
 have hu2 := Tryd.underlying50
 have hu3 := Tryd.underlying26
 have hu4 := Tryd.underlying39
 have HR := Aside0.mk hr0_9
 have HC := Aside0.mk hc0_9
 have HW := Aside0.mk hw_
 have HB := Aside0.mk (Below.refl w.heap.size w)
 unfold note_Encode.f at h
 replace h := Option.bind_eq_some_iff.1 h
 obtain ⟨e0, hf, h⟩ := h
 have HF := Aside0.mk hf
 clear hr0_9 hc0_9 hw_ hf
 by_cases e1 : e0 = 0
 case neg =>
  rw [if_neg e1] at h
  have h1 := Option.some.inj h
  simp only [Prod.mk.injEq] at h1
  obtain ⟨rfl, rfl⟩ := h1
  have e2 : (e0 != 0) = true := bne_iff_ne.2 e1
  clear h e1
  go_enter Tryd.func14, Tryd.ntmps14
  go_wp2_with (first | ((with_reducible refine gate_dst (N := 1) rfl ?_); refine box_event ?hg (N := 1) ?hd (cs := #[.int .i64 a0_0, .int .i64 a0_1, .int .i64 a0_2, .int .i64 a0_3, .int .i64 a0_4, .int .i64 a0_5, .int .i64 a0_6, .int .i64 a0_7, .int .i64 a0_8, .slice A0_9 l0_9.length c0_9, .string a0_10, .int .i64 a0_11]) (t := 39) ?hr ?_; (case hd => rfl); (case hg => rfl); (case hr => first | (go_simp; done) | (go_simp; rfl)); intro gb1 hg wb1 hbox hb; have n0_ := Aside0.mk (below_step HB.out hb); have n3_ := Aside0.mk ((by rw [hg]; exact (below_size HB.out) : w.heap.size ≤ gb1)); have BK1 := Aside0.mk hbox; clear HB; have HB := n0_; have GE1 := n3_; clear n0_ n3_; clear hb hbox hg; have hc1_0 : wb1.cell? ⟨gb1, 0, none⟩ = some (.int .i64 a0_0) := (blk_cell BK1.out 0).trans rfl; have hf1_0 := blk_frozen BK1.out 0; have hc1_1 : wb1.cell? ⟨gb1, 1, none⟩ = some (.int .i64 a0_1) := (blk_cell BK1.out 1).trans rfl; have hf1_1 := blk_frozen BK1.out 1; have hc1_2 : wb1.cell? ⟨gb1, 2, none⟩ = some (.int .i64 a0_2) := (blk_cell BK1.out 2).trans rfl; have hf1_2 := blk_frozen BK1.out 2; have hc1_3 : wb1.cell? ⟨gb1, 3, none⟩ = some (.int .i64 a0_3) := (blk_cell BK1.out 3).trans rfl; have hf1_3 := blk_frozen BK1.out 3; have hc1_4 : wb1.cell? ⟨gb1, 4, none⟩ = some (.int .i64 a0_4) := (blk_cell BK1.out 4).trans rfl; have hf1_4 := blk_frozen BK1.out 4; have hc1_5 : wb1.cell? ⟨gb1, 5, none⟩ = some (.int .i64 a0_5) := (blk_cell BK1.out 5).trans rfl; have hf1_5 := blk_frozen BK1.out 5; have hc1_6 : wb1.cell? ⟨gb1, 6, none⟩ = some (.int .i64 a0_6) := (blk_cell BK1.out 6).trans rfl; have hf1_6 := blk_frozen BK1.out 6; have hc1_7 : wb1.cell? ⟨gb1, 7, none⟩ = some (.int .i64 a0_7) := (blk_cell BK1.out 7).trans rfl; have hf1_7 := blk_frozen BK1.out 7; have hc1_8 : wb1.cell? ⟨gb1, 8, none⟩ = some (.int .i64 a0_8) := (blk_cell BK1.out 8).trans rfl; have hf1_8 := blk_frozen BK1.out 8; have hc1_9 : wb1.cell? ⟨gb1, 9, none⟩ = some (.slice A0_9 l0_9.length c0_9) := (blk_cell BK1.out 9).trans rfl; have hf1_9 := blk_frozen BK1.out 9; have hc1_10 : wb1.cell? ⟨gb1, 10, none⟩ = some (.string a0_10) := (blk_cell BK1.out 10).trans rfl; have hf1_10 := blk_frozen BK1.out 10; have hc1_11 : wb1.cell? ⟨gb1, 11, none⟩ = some (.int .i64 a0_11) := (blk_cell BK1.out 11).trans rfl; have hf1_11 := blk_frozen BK1.out 11) | (go_at_call 17; refine (note_Frame.calls k a0_0 a0_1 a0_2 a0_3 a0_4 a0_5 a0_6 a0_7 a0_8 A0_9 c0_9 l0_9 a0_10 a0_11 _ _ (Kd.C_below HR.out HB.out) HC.out HF.out).mono ?_; rintro e wc12 ⟨rfl, hb⟩; have n0_ := Aside0.mk (below_step HB.out hb); have m1_ := Aside0.mk (blk_below BK1.out hb); clear HB; have HB := n0_; clear n0_ hb; clear BK1 hc1_0 hf1_0 hc1_1 hf1_1 hc1_2 hf1_2 hc1_3 hf1_3 hc1_4 hf1_4 hc1_5 hf1_5 hc1_6 hf1_6 hc1_7 hf1_7 hc1_8 hf1_8 hc1_9 hf1_9 hc1_10 hf1_10 hc1_11 hf1_11; have BK1 := m1_; clear m1_; have hc1_0 : wc12.cell? ⟨gb1, 0, none⟩ = some (.int .i64 a0_0) := (blk_cell BK1.out 0).trans rfl; have hf1_0 := blk_frozen BK1.out 0; have hc1_1 : wc12.cell? ⟨gb1, 1, none⟩ = some (.int .i64 a0_1) := (blk_cell BK1.out 1).trans rfl; have hf1_1 := blk_frozen BK1.out 1; have hc1_2 : wc12.cell? ⟨gb1, 2, none⟩ = some (.int .i64 a0_2) := (blk_cell BK1.out 2).trans rfl; have hf1_2 := blk_frozen BK1.out 2; have hc1_3 : wc12.cell? ⟨gb1, 3, none⟩ = some (.int .i64 a0_3) := (blk_cell BK1.out 3).trans rfl; have hf1_3 := blk_frozen BK1.out 3; have hc1_4 : wc12.cell? ⟨gb1, 4, none⟩ = some (.int .i64 a0_4) := (blk_cell BK1.out 4).trans rfl; have hf1_4 := blk_frozen BK1.out 4; have hc1_5 : wc12.cell? ⟨gb1, 5, none⟩ = some (.int .i64 a0_5) := (blk_cell BK1.out 5).trans rfl; have hf1_5 := blk_frozen BK1.out 5; have hc1_6 : wc12.cell? ⟨gb1, 6, none⟩ = some (.int .i64 a0_6) := (blk_cell BK1.out 6).trans rfl; have hf1_6 := blk_frozen BK1.out 6; have hc1_7 : wc12.cell? ⟨gb1, 7, none⟩ = some (.int .i64 a0_7) := (blk_cell BK1.out 7).trans rfl; have hf1_7 := blk_frozen BK1.out 7; have hc1_8 : wc12.cell? ⟨gb1, 8, none⟩ = some (.int .i64 a0_8) := (blk_cell BK1.out 8).trans rfl; have hf1_8 := blk_frozen BK1.out 8; have hc1_9 : wc12.cell? ⟨gb1, 9, none⟩ = some (.slice A0_9 l0_9.length c0_9) := (blk_cell BK1.out 9).trans rfl; have hf1_9 := blk_frozen BK1.out 9; have hc1_10 : wc12.cell? ⟨gb1, 10, none⟩ = some (.string a0_10) := (blk_cell BK1.out 10).trans rfl; have hf1_10 := blk_frozen BK1.out 10; have hc1_11 : wc12.cell? ⟨gb1, 11, none⟩ = some (.int .i64 a0_11) := (blk_cell BK1.out 11).trans rfl; have hf1_11 := blk_frozen BK1.out 11))
  go_ret2
  exact ⟨rfl, HB.out⟩
 rw [if_pos e1] at h
 subst e1
 replace h := Option.bind_eq_some_iff.1 h
 obtain ⟨S, hS, h⟩ := h
 have HS := Aside0.mk hS
 obtain ⟨bz, hbz⟩ : ∃ bz : Nat, True := ⟨0, trivial⟩
 have HH := Aside0.mk h
 obtain ⟨L, hL⟩ : ∃ L : List Int, L = [a0_0, a0_1, a0_2, a0_3, a0_4, a0_5] := ⟨_, rfl⟩
 have HLL := Aside0.mk hL
 have hL6 : L.length = 6 := by rw [hL]; rfl
 have HL6 := Aside0.mk hL6
 rw [← hL] at hS
 have HS := Aside0.mk hS
 clear hS hbz h hL hL6
 go_enter Tryd.func14, Tryd.ntmps14
 go_wp2_with (first | ((with_reducible refine gate_dst (N := 1) rfl ?_); refine box_event ?hg (N := 1) ?hd (cs := #[.int .i64 a0_0, .int .i64 a0_1, .int .i64 a0_2, .int .i64 a0_3, .int .i64 a0_4, .int .i64 a0_5, .int .i64 a0_6, .int .i64 a0_7, .int .i64 a0_8, .slice A0_9 l0_9.length c0_9, .string a0_10, .int .i64 a0_11]) (t := 39) ?hr ?_; (case hd => rfl); (case hg => rfl); (case hr => first | (go_simp; done) | (go_simp; rfl)); intro gb1 hg wb1 hbox hb; have n0_ := Aside0.mk (below_step HB.out hb); have n3_ := Aside0.mk ((by rw [hg]; exact (below_size HB.out) : w.heap.size ≤ gb1)); have BK1 := Aside0.mk hbox; clear HB; have HB := n0_; have GE1 := n3_; clear n0_ n3_; clear hb hbox hg; have hc1_0 : wb1.cell? ⟨gb1, 0, none⟩ = some (.int .i64 a0_0) := (blk_cell BK1.out 0).trans rfl; have hf1_0 := blk_frozen BK1.out 0; have hc1_1 : wb1.cell? ⟨gb1, 1, none⟩ = some (.int .i64 a0_1) := (blk_cell BK1.out 1).trans rfl; have hf1_1 := blk_frozen BK1.out 1; have hc1_2 : wb1.cell? ⟨gb1, 2, none⟩ = some (.int .i64 a0_2) := (blk_cell BK1.out 2).trans rfl; have hf1_2 := blk_frozen BK1.out 2; have hc1_3 : wb1.cell? ⟨gb1, 3, none⟩ = some (.int .i64 a0_3) := (blk_cell BK1.out 3).trans rfl; have hf1_3 := blk_frozen BK1.out 3; have hc1_4 : wb1.cell? ⟨gb1, 4, none⟩ = some (.int .i64 a0_4) := (blk_cell BK1.out 4).trans rfl; have hf1_4 := blk_frozen BK1.out 4; have hc1_5 : wb1.cell? ⟨gb1, 5, none⟩ = some (.int .i64 a0_5) := (blk_cell BK1.out 5).trans rfl; have hf1_5 := blk_frozen BK1.out 5; have hc1_6 : wb1.cell? ⟨gb1, 6, none⟩ = some (.int .i64 a0_6) := (blk_cell BK1.out 6).trans rfl; have hf1_6 := blk_frozen BK1.out 6; have hc1_7 : wb1.cell? ⟨gb1, 7, none⟩ = some (.int .i64 a0_7) := (blk_cell BK1.out 7).trans rfl; have hf1_7 := blk_frozen BK1.out 7; have hc1_8 : wb1.cell? ⟨gb1, 8, none⟩ = some (.int .i64 a0_8) := (blk_cell BK1.out 8).trans rfl; have hf1_8 := blk_frozen BK1.out 8; have hc1_9 : wb1.cell? ⟨gb1, 9, none⟩ = some (.slice A0_9 l0_9.length c0_9) := (blk_cell BK1.out 9).trans rfl; have hf1_9 := blk_frozen BK1.out 9; have hc1_10 : wb1.cell? ⟨gb1, 10, none⟩ = some (.string a0_10) := (blk_cell BK1.out 10).trans rfl; have hf1_10 := blk_frozen BK1.out 10; have hc1_11 : wb1.cell? ⟨gb1, 11, none⟩ = some (.int .i64 a0_11) := (blk_cell BK1.out 11).trans rfl; have hf1_11 := blk_frozen BK1.out 11) | (go_at_call 17; refine (note_Frame.calls k a0_0 a0_1 a0_2 a0_3 a0_4 a0_5 a0_6 a0_7 a0_8 A0_9 c0_9 l0_9 a0_10 a0_11 _ _ (Kd.C_below HR.out HB.out) HC.out HF.out).mono ?_; rintro e wc12 ⟨rfl, hb⟩; have n0_ := Aside0.mk (below_step HB.out hb); have m1_ := Aside0.mk (blk_below BK1.out hb); clear HB; have HB := n0_; clear n0_ hb; clear BK1 hc1_0 hf1_0 hc1_1 hf1_1 hc1_2 hf1_2 hc1_3 hf1_3 hc1_4 hf1_4 hc1_5 hf1_5 hc1_6 hf1_6 hc1_7 hf1_7 hc1_8 hf1_8 hc1_9 hf1_9 hc1_10 hf1_10 hc1_11 hf1_11; have BK1 := m1_; clear m1_; have hc1_0 : wc12.cell? ⟨gb1, 0, none⟩ = some (.int .i64 a0_0) := (blk_cell BK1.out 0).trans rfl; have hf1_0 := blk_frozen BK1.out 0; have hc1_1 : wc12.cell? ⟨gb1, 1, none⟩ = some (.int .i64 a0_1) := (blk_cell BK1.out 1).trans rfl; have hf1_1 := blk_frozen BK1.out 1; have hc1_2 : wc12.cell? ⟨gb1, 2, none⟩ = some (.int .i64 a0_2) := (blk_cell BK1.out 2).trans rfl; have hf1_2 := blk_frozen BK1.out 2; have hc1_3 : wc12.cell? ⟨gb1, 3, none⟩ = some (.int .i64 a0_3) := (blk_cell BK1.out 3).trans rfl; have hf1_3 := blk_frozen BK1.out 3; have hc1_4 : wc12.cell? ⟨gb1, 4, none⟩ = some (.int .i64 a0_4) := (blk_cell BK1.out 4).trans rfl; have hf1_4 := blk_frozen BK1.out 4; have hc1_5 : wc12.cell? ⟨gb1, 5, none⟩ = some (.int .i64 a0_5) := (blk_cell BK1.out 5).trans rfl; have hf1_5 := blk_frozen BK1.out 5; have hc1_6 : wc12.cell? ⟨gb1, 6, none⟩ = some (.int .i64 a0_6) := (blk_cell BK1.out 6).trans rfl; have hf1_6 := blk_frozen BK1.out 6; have hc1_7 : wc12.cell? ⟨gb1, 7, none⟩ = some (.int .i64 a0_7) := (blk_cell BK1.out 7).trans rfl; have hf1_7 := blk_frozen BK1.out 7; have hc1_8 : wc12.cell? ⟨gb1, 8, none⟩ = some (.int .i64 a0_8) := (blk_cell BK1.out 8).trans rfl; have hf1_8 := blk_frozen BK1.out 8; have hc1_9 : wc12.cell? ⟨gb1, 9, none⟩ = some (.slice A0_9 l0_9.length c0_9) := (blk_cell BK1.out 9).trans rfl; have hf1_9 := blk_frozen BK1.out 9; have hc1_10 : wc12.cell? ⟨gb1, 10, none⟩ = some (.string a0_10) := (blk_cell BK1.out 10).trans rfl; have hf1_10 := blk_frozen BK1.out 10; have hc1_11 : wc12.cell? ⟨gb1, 11, none⟩ = some (.int .i64 a0_11) := (blk_cell BK1.out 11).trans rfl; have hf1_11 := blk_frozen BK1.out 11) | ((with_reducible refine gate_dst (N := 5) rfl ?_); refine box_event ?hg (N := 5) ?hd (cs := #[.string ⟨#[]⟩]) (t := 9) ?hr ?_; (case hd => rfl); (case hg => rfl); (case hr => first | (go_simp; done) | (go_simp; rfl)); intro gb5 hg wb5 hbox hb; have n0_ := Aside0.mk (below_step HB.out hb); have n3_ := Aside0.mk ((by rw [hg]; exact (below_size HB.out) : w.heap.size ≤ gb5)); have NE1_5 : gb1 ≠ gb5 := (by rw [hg]; exact Nat.ne_of_lt (blk_lt (g := gb1) (o := .cells #[.int .i64 a0_0, .int .i64 a0_1, .int .i64 a0_2, .int .i64 a0_3, .int .i64 a0_4, .int .i64 a0_5, .int .i64 a0_6, .int .i64 a0_7, .int .i64 a0_8, .slice A0_9 l0_9.length c0_9, .string a0_10, .int .i64 a0_11] 39 (0, 0)) (by exact BK1.out))); have NE5_1 := Ne.symm NE1_5; have m1_ := Aside0.mk (blk_below BK1.out hb); have BK5 := Aside0.mk hbox; clear HB; have HB := n0_; have GE5 := n3_; clear n0_ n3_; clear hb hbox hg; clear BK1 hc1_0 hf1_0 hc1_1 hf1_1 hc1_2 hf1_2 hc1_3 hf1_3 hc1_4 hf1_4 hc1_5 hf1_5 hc1_6 hf1_6 hc1_7 hf1_7 hc1_8 hf1_8 hc1_9 hf1_9 hc1_10 hf1_10 hc1_11 hf1_11; have BK1 := m1_; clear m1_; have hc1_0 : wb5.cell? ⟨gb1, 0, none⟩ = some (.int .i64 a0_0) := (blk_cell BK1.out 0).trans rfl; have hf1_0 := blk_frozen BK1.out 0; have hc1_1 : wb5.cell? ⟨gb1, 1, none⟩ = some (.int .i64 a0_1) := (blk_cell BK1.out 1).trans rfl; have hf1_1 := blk_frozen BK1.out 1; have hc1_2 : wb5.cell? ⟨gb1, 2, none⟩ = some (.int .i64 a0_2) := (blk_cell BK1.out 2).trans rfl; have hf1_2 := blk_frozen BK1.out 2; have hc1_3 : wb5.cell? ⟨gb1, 3, none⟩ = some (.int .i64 a0_3) := (blk_cell BK1.out 3).trans rfl; have hf1_3 := blk_frozen BK1.out 3; have hc1_4 : wb5.cell? ⟨gb1, 4, none⟩ = some (.int .i64 a0_4) := (blk_cell BK1.out 4).trans rfl; have hf1_4 := blk_frozen BK1.out 4; have hc1_5 : wb5.cell? ⟨gb1, 5, none⟩ = some (.int .i64 a0_5) := (blk_cell BK1.out 5).trans rfl; have hf1_5 := blk_frozen BK1.out 5; have hc1_6 : wb5.cell? ⟨gb1, 6, none⟩ = some (.int .i64 a0_6) := (blk_cell BK1.out 6).trans rfl; have hf1_6 := blk_frozen BK1.out 6; have hc1_7 : wb5.cell? ⟨gb1, 7, none⟩ = some (.int .i64 a0_7) := (blk_cell BK1.out 7).trans rfl; have hf1_7 := blk_frozen BK1.out 7; have hc1_8 : wb5.cell? ⟨gb1, 8, none⟩ = some (.int .i64 a0_8) := (blk_cell BK1.out 8).trans rfl; have hf1_8 := blk_frozen BK1.out 8; have hc1_9 : wb5.cell? ⟨gb1, 9, none⟩ = some (.slice A0_9 l0_9.length c0_9) := (blk_cell BK1.out 9).trans rfl; have hf1_9 := blk_frozen BK1.out 9; have hc1_10 : wb5.cell? ⟨gb1, 10, none⟩ = some (.string a0_10) := (blk_cell BK1.out 10).trans rfl; have hf1_10 := blk_frozen BK1.out 10; have hc1_11 : wb5.cell? ⟨gb1, 11, none⟩ = some (.int .i64 a0_11) := (blk_cell BK1.out 11).trans rfl; have hf1_11 := blk_frozen BK1.out 11; have hc5_0 : wb5.cell? ⟨gb5, 0, none⟩ = some (.string ⟨#[]⟩) := (blk_cell BK5.out 0).trans rfl; have hf5_0 := blk_frozen BK5.out 0) | ((with_reducible refine gate_store (t := 9) (p := 5) rfl ?_); refine store_event (t := 9) (p := 5) (v := ?vz_4) (w1 := (wb5.setCell ⟨gb5, 0, none⟩ (.string ⟨#[]⟩))) ?hg ?ho ?hn ?hr ?_; (case ho => rfl); (case hg => rfl); (case hn => rfl); (case hr => first | (go_simp; done) | (go_simp; rfl)); intro ws5 hw; have n0_ : Aside0 (Below w.heap.size w ws5) := ⟨by rw [hw]; exact (below_set HB.out GE5.out)⟩; have n1_ : Aside0 (ws5.heap[gb5]? = some (.cells #[.string ⟨#[]⟩] 9 (0, 0))) := ⟨by rw [hw]; exact (blk_put (cs' := #[.string ⟨#[]⟩]) BK5.out 0 (.string ⟨#[]⟩) rfl)⟩; have m1_ : Aside0 (ws5.heap[gb1]? = some (.cells #[.int .i64 a0_0, .int .i64 a0_1, .int .i64 a0_2, .int .i64 a0_3, .int .i64 a0_4, .int .i64 a0_5, .int .i64 a0_6, .int .i64 a0_7, .int .i64 a0_8, .slice A0_9 l0_9.length c0_9, .string a0_10, .int .i64 a0_11] 39 (0, 0))) := ⟨by rw [hw]; exact (blk_far BK1.out NE1_5 (.string ⟨#[]⟩))⟩; clear hw HB; have HB := n0_; clear BK5 hc5_0 hf5_0; have BK5 := n1_; clear n0_ n1_; clear BK1 hc1_0 hf1_0 hc1_1 hf1_1 hc1_2 hf1_2 hc1_3 hf1_3 hc1_4 hf1_4 hc1_5 hf1_5 hc1_6 hf1_6 hc1_7 hf1_7 hc1_8 hf1_8 hc1_9 hf1_9 hc1_10 hf1_10 hc1_11 hf1_11; have BK1 := m1_; clear m1_; have hc1_0 : ws5.cell? ⟨gb1, 0, none⟩ = some (.int .i64 a0_0) := (blk_cell BK1.out 0).trans rfl; have hf1_0 := blk_frozen BK1.out 0; have hc1_1 : ws5.cell? ⟨gb1, 1, none⟩ = some (.int .i64 a0_1) := (blk_cell BK1.out 1).trans rfl; have hf1_1 := blk_frozen BK1.out 1; have hc1_2 : ws5.cell? ⟨gb1, 2, none⟩ = some (.int .i64 a0_2) := (blk_cell BK1.out 2).trans rfl; have hf1_2 := blk_frozen BK1.out 2; have hc1_3 : ws5.cell? ⟨gb1, 3, none⟩ = some (.int .i64 a0_3) := (blk_cell BK1.out 3).trans rfl; have hf1_3 := blk_frozen BK1.out 3; have hc1_4 : ws5.cell? ⟨gb1, 4, none⟩ = some (.int .i64 a0_4) := (blk_cell BK1.out 4).trans rfl; have hf1_4 := blk_frozen BK1.out 4; have hc1_5 : ws5.cell? ⟨gb1, 5, none⟩ = some (.int .i64 a0_5) := (blk_cell BK1.out 5).trans rfl; have hf1_5 := blk_frozen BK1.out 5; have hc1_6 : ws5.cell? ⟨gb1, 6, none⟩ = some (.int .i64 a0_6) := (blk_cell BK1.out 6).trans rfl; have hf1_6 := blk_frozen BK1.out 6; have hc1_7 : ws5.cell? ⟨gb1, 7, none⟩ = some (.int .i64 a0_7) := (blk_cell BK1.out 7).trans rfl; have hf1_7 := blk_frozen BK1.out 7; have hc1_8 : ws5.cell? ⟨gb1, 8, none⟩ = some (.int .i64 a0_8) := (blk_cell BK1.out 8).trans rfl; have hf1_8 := blk_frozen BK1.out 8; have hc1_9 : ws5.cell? ⟨gb1, 9, none⟩ = some (.slice A0_9 l0_9.length c0_9) := (blk_cell BK1.out 9).trans rfl; have hf1_9 := blk_frozen BK1.out 9; have hc1_10 : ws5.cell? ⟨gb1, 10, none⟩ = some (.string a0_10) := (blk_cell BK1.out 10).trans rfl; have hf1_10 := blk_frozen BK1.out 10; have hc1_11 : ws5.cell? ⟨gb1, 11, none⟩ = some (.int .i64 a0_11) := (blk_cell BK1.out 11).trans rfl; have hf1_11 := blk_frozen BK1.out 11; have hc5_0 : ws5.cell? ⟨gb5, 0, none⟩ = some (.string ⟨#[]⟩) := (blk_cell BK5.out 0).trans rfl; have hf5_0 := blk_frozen BK5.out 0) | ((with_reducible refine gate_dst (N := 29) rfl ?_); refine Kd.R_lit (Kd.int .i64) _ 3 ?hg (N := 29) ?hd (xs := ([a0_0, a0_1, a0_2, a0_3, a0_4, a0_5] : List Int)) (inner := [.int .i64 a0_0, .int .i64 a0_1, .int .i64 a0_2, .int .i64 a0_3, .int .i64 a0_4, .int .i64 a0_5]) (ok := fun _ => True) (okp := fun _ => True) ?hr ?hp (fun _ hk => hk) trivial (Below.refl _ _) (Nat.le_refl _) (by simp) ?_; (case hd => rfl); (case hg => rfl); (case hr => first | (go_simp; done) | (go_simp; rfl)); (case hp => exact (Reps.one (show Kd.M (Kd.int .i64) _ _ _ a0_0 [.int .i64 a0_0] from rfl) (Reps.one (show Kd.M (Kd.int .i64) _ _ _ a0_1 [.int .i64 a0_1] from rfl) (Reps.one (show Kd.M (Kd.int .i64) _ _ _ a0_2 [.int .i64 a0_2] from rfl) (Reps.one (show Kd.M (Kd.int .i64) _ _ _ a0_3 [.int .i64 a0_3] from rfl) (Reps.one (show Kd.M (Kd.int .i64) _ _ _ a0_4 [.int .i64 a0_4] from rfl) (Reps.one (show Kd.M (Kd.int .i64) _ _ _ a0_5 [.int .i64 a0_5] from rfl) (Reps.none _ _)))))))); intro v29 wl ho29 hb hg_ hnew_; clear hg_ hnew_; rw [← HLL.out] at ho29; have n0_ := Aside0.mk (below_step HB.out hb); have n1_ := Aside0.mk (blk_below BK1.out hb); have n5_ := Aside0.mk (blk_below BK5.out hb); have HO29 := Aside0.mk ho29; clear hb ho29 HB BK1 BK5 hc1_0 hf1_0 hc1_1 hf1_1 hc1_2 hf1_2 hc1_3 hf1_3 hc1_4 hf1_4 hc1_5 hf1_5 hc1_6 hf1_6 hc1_7 hf1_7 hc1_8 hf1_8 hc1_9 hf1_9 hc1_10 hf1_10 hc1_11 hf1_11 hc5_0 hf5_0; have HB := n0_; have BK1 := n1_; have BK5 := n5_; clear n0_ n1_ n5_; obtain ⟨A29, c29, e29⟩ := Kd.R_slice HO29.out; subst e29; rw [HL6.out]))
 (try clear hc1_0 hf1_0 hc1_1 hf1_1 hc1_2 hf1_2 hc1_3 hf1_3 hc1_4 hf1_4 hc1_5 hf1_5 hc1_6 hf1_6 hc1_7 hf1_7 hc1_8 hf1_8 hc1_9 hf1_9 hc1_10 hf1_10 hc1_11 hf1_11)
 go_loopg [31] 6 (fun kq v31 w' => ∃ (i : Nat) (s : ByteArray), v31 = .int .i64 (i : Int) ∧ Aside0 (kq = 6 - i) ∧ Aside0 (i ≤ 6) ∧ Aside0 (note_Encode.puts k s (L.drop i) = some S) ∧ Aside0 (Kd.R (Kd.int .i64) 3 w' ws5.heap.size (fun _ => True) (.slice A29 L.length c29) L) ∧ Aside0 (w'.heap[gb1]? = some (.cells #[.int .i64 a0_0, .int .i64 a0_1, .int .i64 a0_2, .int .i64 a0_3, .int .i64 a0_4, .int .i64 a0_5, .int .i64 a0_6, .int .i64 a0_7, .int .i64 a0_8, .slice A0_9 l0_9.length c0_9, .string a0_10, .int .i64 a0_11] 39 (0, 0))) ∧ Aside0 (w'.heap[gb5]? = some (.cells #[.string s] 9 (0, 0))) ∧ Aside0 (Below w.heap.size w w'))
 case atStart => exact ⟨0, ⟨#[]⟩, rfl, ⟨rfl⟩, ⟨Nat.zero_le _⟩, HS, ⟨HO29.out⟩, ⟨BK1.out⟩, ⟨BK5.out⟩, ⟨HB.out⟩⟩
 case round =>
  clear HO29 BK1 BK5 HB HS
  obtain ⟨i, s, rfl, HK, HI, HA, HO29, BK1, BK5, HB⟩ := hrel
  by_cases hlt : i < 6
  ·have d1 : decide ((i : Int) < 6) = true := decide_eq_true (by omega)
   have d2 : (0 ≤ (i : Int)) = True := eq_true (by omega)
   have d3 : ((i : Int) < 6) = True := eq_true (by omega)
   have h6 := HL6.out
   obtain ⟨ad, e, hx⟩ := Kd.at_int (Kd.R_reads' HO29.out).2.2 (i : Int) (by omega) (by omega)
   subst e
   rw [Int.toNat_natCast] at hx
   have hd : L.drop i = rd L (i : Int) :: L.drop (i + 1) := by
    rw [List.drop_eq_getElem_cons (by omega)]
    unfold rd
    rw [Int.toNat_natCast, List.getD_eq_getElem?_getD, List.getElem?_eq_getElem (by omega)]
    rfl
   have hA := HA.out
   rw [hd] at hA
   generalize rd L (i : Int) = n at hx hA
   obtain ⟨q, hq, hA⟩ := Option.bind_eq_some_iff.1 (show (note_Encode.putn k s n).bind (fun t => note_Encode.puts k t (L.drop (i + 1))) = some S from hA)
   have Hq := Aside0.mk hq
   have HA2 := Aside0.mk hA
   have HLT := Aside0.mk hlt
   have hi2 : wrap64 ((i : Int) + 1) = ((i + 1 : Nat) : Int) := by rw [IntWalk.wrap64_in _ (by omega)]; omega
   clear hd HA hq hA hlt h6
   go_wp2_with (first | (go_at_call 30; refine (note_Encode.put_calls k gb5 s q n _ BK5.out Hq.out).mono ?_; rintro e wq1 ⟨rfl, wz1, hb, hw⟩; have n0_ : Aside0 (Below w.heap.size w wq1) := ⟨by rw [hw]; exact below_set (below_step HB.out hb) GE5.out⟩; have n1_ : Aside0 (wq1.heap[gb1]? = some (.cells #[.int .i64 a0_0, .int .i64 a0_1, .int .i64 a0_2, .int .i64 a0_3, .int .i64 a0_4, .int .i64 a0_5, .int .i64 a0_6, .int .i64 a0_7, .int .i64 a0_8, .slice A0_9 l0_9.length c0_9, .string a0_10, .int .i64 a0_11] 39 (0, 0))) := ⟨by rw [hw]; exact blk_far (blk_below BK1.out hb) NE1_5 _⟩; have n5_ : Aside0 (wq1.heap[gb5]? = some (.cells #[.string q] 9 (0, 0))) := ⟨by rw [hw]; exact blk_put (blk_below BK5.out hb) 0 _ rfl⟩; have n9_ := Aside0.mk (show Kd.R (Kd.int .i64) 3 wq1 ws5.heap.size (fun _ => True) (.slice _ L.length c29) L from (by rw [hw]; exact Kd.R_set (Kd.R_below HO29.out hb) (blk_below BK5.out hb) (by decide) 0 _)); clear HO29; have HO29 := n9_; clear n9_; clear hw hb HB BK1 BK5; have HB := n0_; have BK1 := n1_; have BK5 := n5_; clear n0_ n1_ n5_))
   obtain ⟨k1, hk⟩ : ∃ k, 6 - i = k + 1 := ⟨6 - i - 1, by have := HLT.out; omega⟩
   go_roundg k1
   case measure => have := HK.out; omega
   case rel => exact ⟨i + 1, q, by first | rw [hi2] | rfl, ⟨by omega⟩, ⟨by have := HLT.out; omega⟩, HA2, HO29, BK1, BK5, HB⟩
  ·have d1 : decide ((i : Int) < 6) = false := decide_eq_false (by omega)
   have hs : s = S := by
    have hA := HA.out
    rw [List.drop_of_length_le (by have := HL6.out; omega)] at hA
    exact Option.some.inj hA
   subst hs
   clear HA HI HK HO29
   have hc1_0 : wr.cell? ⟨gb1, 0, none⟩ = some (.int .i64 a0_0) := (blk_cell BK1.out 0).trans rfl
   have hf1_0 := blk_frozen BK1.out 0
   have hc1_1 : wr.cell? ⟨gb1, 1, none⟩ = some (.int .i64 a0_1) := (blk_cell BK1.out 1).trans rfl
   have hf1_1 := blk_frozen BK1.out 1
   have hc1_2 : wr.cell? ⟨gb1, 2, none⟩ = some (.int .i64 a0_2) := (blk_cell BK1.out 2).trans rfl
   have hf1_2 := blk_frozen BK1.out 2
   have hc1_3 : wr.cell? ⟨gb1, 3, none⟩ = some (.int .i64 a0_3) := (blk_cell BK1.out 3).trans rfl
   have hf1_3 := blk_frozen BK1.out 3
   have hc1_4 : wr.cell? ⟨gb1, 4, none⟩ = some (.int .i64 a0_4) := (blk_cell BK1.out 4).trans rfl
   have hf1_4 := blk_frozen BK1.out 4
   have hc1_5 : wr.cell? ⟨gb1, 5, none⟩ = some (.int .i64 a0_5) := (blk_cell BK1.out 5).trans rfl
   have hf1_5 := blk_frozen BK1.out 5
   have hc1_6 : wr.cell? ⟨gb1, 6, none⟩ = some (.int .i64 a0_6) := (blk_cell BK1.out 6).trans rfl
   have hf1_6 := blk_frozen BK1.out 6
   have hc1_7 : wr.cell? ⟨gb1, 7, none⟩ = some (.int .i64 a0_7) := (blk_cell BK1.out 7).trans rfl
   have hf1_7 := blk_frozen BK1.out 7
   have hc1_8 : wr.cell? ⟨gb1, 8, none⟩ = some (.int .i64 a0_8) := (blk_cell BK1.out 8).trans rfl
   have hf1_8 := blk_frozen BK1.out 8
   have hc1_9 : wr.cell? ⟨gb1, 9, none⟩ = some (.slice A0_9 l0_9.length c0_9) := (blk_cell BK1.out 9).trans rfl
   have hf1_9 := blk_frozen BK1.out 9
   have hc1_10 : wr.cell? ⟨gb1, 10, none⟩ = some (.string a0_10) := (blk_cell BK1.out 10).trans rfl
   have hf1_10 := blk_frozen BK1.out 10
   have hc1_11 : wr.cell? ⟨gb1, 11, none⟩ = some (.int .i64 a0_11) := (blk_cell BK1.out 11).trans rfl
   have hf1_11 := blk_frozen BK1.out 11
   have hc5_0 : wr.cell? ⟨gb5, 0, none⟩ = some (.string s) := (blk_cell BK5.out 0).trans rfl
   have hf5_0 := blk_frozen BK5.out 0
   have h := HH.out
   by_cases g1 : 0 < a0_3
   case neg =>
    rw [if_neg g1] at h
    have HZ := Aside0.mk h
    have g2 : decide (0 < a0_3) = false := decide_eq_false g1
    clear h HH g1
    go_wp2_with (first | (go_at_call 33; refine (seal_Seal.calls k 1 s r1 r2 _ HZ.out).mono ?_; rintro e wc69 ⟨rfl, hb⟩; replace HB := Aside0.mk (below_step HB.out hb); clear hb))
    go_ret2
    exact ⟨rfl, HB.out⟩
   rw [if_pos g1] at h
   obtain ⟨⟨id1, id2⟩, hid, h⟩ := Option.bind_eq_some_iff.1 h
   obtain ⟨s1, hs1, h⟩ := Option.bind_eq_some_iff.1 h
   obtain ⟨t1, ht1, h⟩ := Option.bind_eq_some_iff.1 h
   obtain ⟨t2, ht2, h⟩ := Option.bind_eq_some_iff.1 h
   replace ht1 : pack_Text.f k id1 = some t1 := ht1
   by_cases hz : t1.size + t2.size ≤ 9223372036854775807 ∧ s1.size + (t1.size + t2.size) ≤ 9223372036854775807
   case neg => rw [if_neg hz] at h; cases h
   rw [if_pos hz] at h
   obtain ⟨s2, hs2, h⟩ := Option.bind_eq_some_iff.1 h
   have HID := Aside0.mk hid
   have HS1 := Aside0.mk hs1
   have HT1 := Aside0.mk ht1
   have HT2 := Aside0.mk ht2
   have HS2 := Aside0.mk hs2
   have HZ := Aside0.mk h
   have g2 : decide (0 < a0_3) = true := decide_eq_true g1
   have z1 : (9223372036854775807 < t1.size + t2.size) = False := eq_false (by omega)
   have z2 : (9223372036854775807 < s1.size + (t1.size + t2.size)) = False := eq_false (by omega)
   clear h HH g1 hid hs1 ht1 ht2 hs2 hz
   go_wp2_with (first | (go_at_call 22; refine (ident_Show.calls k a0_7 a0_8 A0_9 c0_9 l0_9 id1 id2 _ (Kd.C_below HR.out HB.out) HC.out (WH.below HW.out HB.out) HID.out).mono ?_; rintro e wc46 ⟨rfl, hb⟩; have n0_ := Aside0.mk (below_step HB.out hb); have m1_ := Aside0.mk (blk_below BK1.out hb); have m5_ := Aside0.mk (blk_below BK5.out hb); clear HB; have HB := n0_; clear n0_ hb; clear BK1 hc1_0 hf1_0 hc1_1 hf1_1 hc1_2 hf1_2 hc1_3 hf1_3 hc1_4 hf1_4 hc1_5 hf1_5 hc1_6 hf1_6 hc1_7 hf1_7 hc1_8 hf1_8 hc1_9 hf1_9 hc1_10 hf1_10 hc1_11 hf1_11; have BK1 := m1_; clear m1_; have hc1_0 : wc46.cell? ⟨gb1, 0, none⟩ = some (.int .i64 a0_0) := (blk_cell BK1.out 0).trans rfl; have hf1_0 := blk_frozen BK1.out 0; have hc1_1 : wc46.cell? ⟨gb1, 1, none⟩ = some (.int .i64 a0_1) := (blk_cell BK1.out 1).trans rfl; have hf1_1 := blk_frozen BK1.out 1; have hc1_2 : wc46.cell? ⟨gb1, 2, none⟩ = some (.int .i64 a0_2) := (blk_cell BK1.out 2).trans rfl; have hf1_2 := blk_frozen BK1.out 2; have hc1_3 : wc46.cell? ⟨gb1, 3, none⟩ = some (.int .i64 a0_3) := (blk_cell BK1.out 3).trans rfl; have hf1_3 := blk_frozen BK1.out 3; have hc1_4 : wc46.cell? ⟨gb1, 4, none⟩ = some (.int .i64 a0_4) := (blk_cell BK1.out 4).trans rfl; have hf1_4 := blk_frozen BK1.out 4; have hc1_5 : wc46.cell? ⟨gb1, 5, none⟩ = some (.int .i64 a0_5) := (blk_cell BK1.out 5).trans rfl; have hf1_5 := blk_frozen BK1.out 5; have hc1_6 : wc46.cell? ⟨gb1, 6, none⟩ = some (.int .i64 a0_6) := (blk_cell BK1.out 6).trans rfl; have hf1_6 := blk_frozen BK1.out 6; have hc1_7 : wc46.cell? ⟨gb1, 7, none⟩ = some (.int .i64 a0_7) := (blk_cell BK1.out 7).trans rfl; have hf1_7 := blk_frozen BK1.out 7; have hc1_8 : wc46.cell? ⟨gb1, 8, none⟩ = some (.int .i64 a0_8) := (blk_cell BK1.out 8).trans rfl; have hf1_8 := blk_frozen BK1.out 8; have hc1_9 : wc46.cell? ⟨gb1, 9, none⟩ = some (.slice A0_9 l0_9.length c0_9) := (blk_cell BK1.out 9).trans rfl; have hf1_9 := blk_frozen BK1.out 9; have hc1_10 : wc46.cell? ⟨gb1, 10, none⟩ = some (.string a0_10) := (blk_cell BK1.out 10).trans rfl; have hf1_10 := blk_frozen BK1.out 10; have hc1_11 : wc46.cell? ⟨gb1, 11, none⟩ = some (.int .i64 a0_11) := (blk_cell BK1.out 11).trans rfl; have hf1_11 := blk_frozen BK1.out 11; clear BK5 hc5_0 hf5_0; have BK5 := m5_; clear m5_; have hc5_0 : wc46.cell? ⟨gb5, 0, none⟩ = some (.string s) := (blk_cell BK5.out 0).trans rfl; have hf5_0 := blk_frozen BK5.out 0) | (go_at_call 30; refine (note_Encode.put_calls k gb5 s s1 a0_6 _ BK5.out HS1.out).mono ?_; rintro e wq53 ⟨rfl, wz53, hb, hw⟩; have n0_ : Aside0 (Below w.heap.size w wq53) := ⟨by rw [hw]; exact below_set (below_step HB.out hb) GE5.out⟩; have n1_ : Aside0 (wq53.heap[gb1]? = some (.cells #[.int .i64 a0_0, .int .i64 a0_1, .int .i64 a0_2, .int .i64 a0_3, .int .i64 a0_4, .int .i64 a0_5, .int .i64 a0_6, .int .i64 a0_7, .int .i64 a0_8, .slice A0_9 l0_9.length c0_9, .string a0_10, .int .i64 a0_11] 39 (0, 0))) := ⟨by rw [hw]; exact blk_far (blk_below BK1.out hb) NE1_5 _⟩; have n5_ : Aside0 (wq53.heap[gb5]? = some (.cells #[.string s1] 9 (0, 0))) := ⟨by rw [hw]; exact blk_put (blk_below BK5.out hb) 0 _ rfl⟩; clear hw hb HB BK1 BK5; (try clear hc1_0 hf1_0 hc1_1 hf1_1 hc1_2 hf1_2 hc1_3 hf1_3 hc1_4 hf1_4 hc1_5 hf1_5 hc1_6 hf1_6 hc1_7 hf1_7 hc1_8 hf1_8 hc1_9 hf1_9 hc1_10 hf1_10 hc1_11 hf1_11 hc5_0 hf5_0); have HB := n0_; have BK1 := n1_; have BK5 := n5_; clear n0_ n1_ n5_; have hc1_10 : wq53.cell? ⟨gb1, 10, none⟩ = some (.string a0_10) := (blk_cell BK1.out 10).trans rfl; have hf1_10 := blk_frozen BK1.out 10; have hc1_11 : wq53.cell? ⟨gb1, 11, none⟩ = some (.int .i64 a0_11) := (blk_cell BK1.out 11).trans rfl; have hf1_11 := blk_frozen BK1.out 11; have hc5_0 : wq53.cell? ⟨gb5, 0, none⟩ = some (.string s1) := (blk_cell BK5.out 0).trans rfl; have hf5_0 := blk_frozen BK5.out 0))
   go_region_law (first | (go_simp; go_at_call 32; (with_reducible refine (pack_Text.calls k id1 t1 _ HT1.out).mono ?_); rintro e wx ⟨rfl, hb⟩; have HD1 := Aside0.mk (below_step (below_drew1 (Below.refl wq53.heap.size wq53)) hb); have BX5 := Aside0.mk (blk_below BK5.out HD1.out); have BX1 := Aside0.mk (blk_below BK1.out HD1.out); have hx5 : wx.cell? ⟨gb5, 0, none⟩ = some (.string s1) := (blk_cell BX5.out 0).trans rfl; have hy5 := blk_frozen BX5.out 0; have hx1 : wx.cell? ⟨gb1, 10, none⟩ = some (.string a0_10) := (blk_cell BX1.out 10).trans rfl; clear hb) | (go_simp; go_at_call 32; (with_reducible refine (pack_Text.calls k a0_10 t2 _ HT2.out).mono ?_); rintro e wy ⟨rfl, hb⟩; have HD2 := Aside0.mk (below_step HD1.out hb); have BZ5 := Aside0.mk (blk_below BK5.out HD2.out); have BZ1 := Aside0.mk (blk_below BK1.out HD2.out); have hz5 : wy.cell? ⟨gb5, 0, none⟩ = some (.string s1) := (blk_cell BZ5.out 0).trans rfl; have hzf5 := blk_frozen BZ5.out 0; clear hb))
   all_goals
    obtain ⟨wv, hwv⟩ : ∃ wv, wv = wy.setCell ⟨gb5, 0, none⟩ (.string (s1 ++ (t1 ++ t2))) := ⟨_, rfl⟩
    rw [← hwv]
    have n0_ : Aside0 (Below w.heap.size w wv) := ⟨by rw [hwv]; exact below_set (below_step HB.out HD2.out) GE5.out⟩
    have n1_ : Aside0 (wv.heap[gb1]? = some (.cells #[.int .i64 a0_0, .int .i64 a0_1, .int .i64 a0_2, .int .i64 a0_3, .int .i64 a0_4, .int .i64 a0_5, .int .i64 a0_6, .int .i64 a0_7, .int .i64 a0_8, .slice A0_9 l0_9.length c0_9, .string a0_10, .int .i64 a0_11] 39 (0, 0))) := ⟨by rw [hwv]; exact blk_far BZ1.out NE1_5 _⟩
    have n5_ : Aside0 (wv.heap[gb5]? = some (.cells #[.string (s1 ++ (t1 ++ t2))] 9 (0, 0))) := ⟨by rw [hwv]; exact blk_put BZ5.out 0 _ rfl⟩
    clear hwv HB BK1 BK5 hc5_0 hf5_0 hc1_10 hf1_10 hc1_11 hf1_11 hx5 hy5 hx1 hz5 hzf5 BX1 BX5 BZ1 BZ5 HD1 HD2
    have HB := n0_
    have BK1 := n1_
    have BK5 := n5_
    clear n0_ n1_ n5_
    have hc1_11 : wv.cell? ⟨gb1, 11, none⟩ = some (.int .i64 a0_11) := (blk_cell BK1.out 11).trans rfl
    have hf1_11 := blk_frozen BK1.out 11
    have hc5_0 : wv.cell? ⟨gb5, 0, none⟩ = some (.string (s1 ++ (t1 ++ t2))) := (blk_cell BK5.out 0).trans rfl
    have hf5_0 := blk_frozen BK5.out 0
    go_wp2_with (first | (go_at_call 30; refine (note_Encode.put_calls k gb5 (s1 ++ (t1 ++ t2)) s2 a0_11 _ BK5.out HS2.out).mono ?_; rintro e wq67 ⟨rfl, wz67, hb, hw⟩; have n0_ : Aside0 (Below w.heap.size w wq67) := ⟨by rw [hw]; exact below_set (below_step HB.out hb) GE5.out⟩; have n5_ : Aside0 (wq67.heap[gb5]? = some (.cells #[.string s2] 9 (0, 0))) := ⟨by rw [hw]; exact blk_put (blk_below BK5.out hb) 0 _ rfl⟩; clear hw hb HB BK5 BK1 hc5_0 hf5_0 hc1_11 hf1_11; have HB := n0_; have BK5 := n5_; clear n0_ n5_; have hc5_0 : wq67.cell? ⟨gb5, 0, none⟩ = some (.string s2) := (blk_cell BK5.out 0).trans rfl; have hf5_0 := blk_frozen BK5.out 0) | (go_at_call 33; refine (seal_Seal.calls k 1 s2 r1 r2 _ HZ.out).mono ?_; rintro e wc69 ⟨rfl, hb⟩; replace HB := Aside0.mk (below_step HB.out hb); clear hb))
    go_ret2
    exact ⟨rfl, HB.out⟩

/-! ### pack_TakeNumber: function 45 -/
mutual
def pack_TakeNumber.j0 : Nat → ByteArray → Int → Bool → Option (Int × Int × Int)
 | 0, _, _, _ => none
 | k + 1, x0, x1, x17 => if x17 = true then (some (0, 0, 2)) else (pack_TakeNumber.l0 k x0 x1 0 0)
def pack_TakeNumber.l0 : Nat → ByteArray → Int → Int → Int → Option (Int × Int × Int)
 | 0, _, _, _, _ => none
 | k + 1, x0, x1, x7, x18 => if x18 < 10 then (if (wrap64 (x1 + x18)) = (x0.size : Int) then (some (0, 0, 10)) else (if 0 ≤ (wrap64 (x1 + x18)) then (if (wrap64 (x1 + x18)) < (x0.size : Int) then (if x18 = 9 then (pack_TakeNumber.j2 k x0 x1 x7 x18 (bt x0 (wrap64 (x1 + x18))) x18 (decide ((bt x0 (wrap64 (x1 + x18))) > 1))) else (pack_TakeNumber.j2 k x0 x1 x7 x18 (bt x0 (wrap64 (x1 + x18))) x18 false)) else (none)) else (none))) else (some (0, 0, 11))
def pack_TakeNumber.j2 : Nat → ByteArray → Int → Int → Int → Int → Int → Bool → Option (Int × Int × Int)
 | 0, _, _, _, _, _, _, _ => none
 | k + 1, x0, x1, x7, x8, x9, x18, x37 => if x37 = true then (some (0, 0, 11)) else (if 0 ≤ (IntKind.u64.wrap (wrap64 (7 * x8))) then (if x9 ≥ 128 then (pack_TakeNumber.l0 k x0 x1 (Go.bits .or .u64 x7 (shl .u64 (IntKind.u64.wrap (Go.bits .and .u8 x9 127)) (IntKind.u64.wrap (wrap64 (7 * x8))))) (wrap64 (x18 + 1))) else (if x9 = 0 then (if x8 > 0 then (some (0, 0, 11)) else (some (Go.bits .or .u64 x7 (shl .u64 (IntKind.u64.wrap (Go.bits .and .u8 x9 127)) (IntKind.u64.wrap (wrap64 (7 * x8)))), wrap64 ((wrap64 (x1 + x8)) + 1), 0))) else (some (Go.bits .or .u64 x7 (shl .u64 (IntKind.u64.wrap (Go.bits .and .u8 x9 127)) (IntKind.u64.wrap (wrap64 (7 * x8)))), wrap64 ((wrap64 (x1 + x8)) + 1), 0)))) else (none))
end
def pack_TakeNumber.f (k : Nat) (a0 : ByteArray) (a1 : Int) : Option (Int × Int × Int) := if a1 < 0 then (pack_TakeNumber.j0 k a0 a1 true) else (pack_TakeNumber.j0 k a0 a1 (decide (a1 > (a0.size : Int))))
theorem pack_TakeNumber.mono_l : ∀ k, (∀ y0 y1 y2, LeO (pack_TakeNumber.j0 k y0 y1 y2) (pack_TakeNumber.j0 (k + 1) y0 y1 y2)) ∧ (∀ y0 y1 y2 y3, LeO (pack_TakeNumber.l0 k y0 y1 y2 y3) (pack_TakeNumber.l0 (k + 1) y0 y1 y2 y3)) ∧ (∀ y0 y1 y2 y3 y4 y5 y6, LeO (pack_TakeNumber.j2 k y0 y1 y2 y3 y4 y5 y6) (pack_TakeNumber.j2 (k + 1) y0 y1 y2 y3 y4 y5 y6))
 | 0 => ⟨fun _ _ _ r h => by simp [pack_TakeNumber.j0] at h, fun _ _ _ _ r h => by simp [pack_TakeNumber.l0] at h, fun _ _ _ _ _ _ _ r h => by simp [pack_TakeNumber.j2] at h⟩
 | k + 1 => by
  obtain ⟨ih0, ih1, ih2⟩ := pack_TakeNumber.mono_l k
  refine ⟨?_, ?_, ?_⟩
  ·intro y0 y1 y2
   unfold pack_TakeNumber.j0
   repeat' first
   | (with_reducible exact ih0 _ _ _)
   | (with_reducible exact ih1 _ _ _ _)
   | (with_reducible exact ih2 _ _ _ _ _ _ _)
   | (with_reducible exact LeO.refl _)
   | (with_reducible exact LeO.none _)
   | (with_reducible refine LeO.ite ?_ ?_)
   | (with_reducible refine LeO.bind ?_ (fun _ => ?_))
   | exact ih0 _ _ _
   | exact ih1 _ _ _ _
   | exact ih2 _ _ _ _ _ _ _
   | exact LeO.none _
   | refine LeO.ite ?_ ?_
   | refine LeO.bind ?_ (fun _ => ?_)
  ·intro y0 y1 y2 y3
   unfold pack_TakeNumber.l0
   repeat' first
   | (with_reducible exact ih0 _ _ _)
   | (with_reducible exact ih1 _ _ _ _)
   | (with_reducible exact ih2 _ _ _ _ _ _ _)
   | (with_reducible exact LeO.refl _)
   | (with_reducible exact LeO.none _)
   | (with_reducible refine LeO.ite ?_ ?_)
   | (with_reducible refine LeO.bind ?_ (fun _ => ?_))
   | exact ih0 _ _ _
   | exact ih1 _ _ _ _
   | exact ih2 _ _ _ _ _ _ _
   | exact LeO.none _
   | refine LeO.ite ?_ ?_
   | refine LeO.bind ?_ (fun _ => ?_)
  ·intro y0 y1 y2 y3 y4 y5 y6
   unfold pack_TakeNumber.j2
   repeat' first
   | (with_reducible exact ih0 _ _ _)
   | (with_reducible exact ih1 _ _ _ _)
   | (with_reducible exact ih2 _ _ _ _ _ _ _)
   | (with_reducible exact LeO.refl _)
   | (with_reducible exact LeO.none _)
   | (with_reducible refine LeO.ite ?_ ?_)
   | (with_reducible refine LeO.bind ?_ (fun _ => ?_))
   | exact ih0 _ _ _
   | exact ih1 _ _ _ _
   | exact ih2 _ _ _ _ _ _ _
   | exact LeO.none _
   | refine LeO.ite ?_ ?_
   | refine LeO.bind ?_ (fun _ => ?_)
theorem pack_TakeNumber.mono : ∀ a0 a1 k, LeO (pack_TakeNumber.f k a0 a1) (pack_TakeNumber.f (k + 1) a0 a1) := by
 intro a0 a1 k
 obtain ⟨ih0, ih1, ih2⟩ := pack_TakeNumber.mono_l k
 unfold pack_TakeNumber.f
 repeat' first
   | (with_reducible exact ih0 _ _ _)
   | (with_reducible exact ih1 _ _ _ _)
   | (with_reducible exact ih2 _ _ _ _ _ _ _)
   | (with_reducible exact LeO.refl _)
   | (with_reducible exact LeO.none _)
   | (with_reducible refine LeO.ite ?_ ?_)
   | (with_reducible refine LeO.bind ?_ (fun _ => ?_))
   | exact ih0 _ _ _
   | exact ih1 _ _ _ _
   | exact ih2 _ _ _ _ _ _ _
   | exact LeO.none _
   | refine LeO.ite ?_ ?_
   | refine LeO.bind ?_ (fun _ => ?_)
set_option maxHeartbeats 8000000 in
set_option maxRecDepth 100000 in
theorem pack_TakeNumber.calls (k : Nat) (a0 : ByteArray) (a1 : Int) (r1 : Int) (r2 : Int) (r3 : Int) (w : World) (h : pack_TakeNumber.f k a0 a1 = some (r1, r2, r3)) :
  Calls Tryd.prog 45 #[.string a0, .int .i64 a1] w fun e w' => e = .returned (.tuple #[.int .u64 r1, .int .i64 r2, .int .i64 r3]) ∧ Drawn0 w w' := by
 have H : (if a1 < 0 then (pack_TakeNumber.j0 k a0 a1 true) else (pack_TakeNumber.j0 k a0 a1 (decide (a1 > (a0.size : Int))))) = some (r1, r2, r3) := h
 clear h
 have HC3 := Aside0.mk H
 clear H
 go_enter Tryd.func45, Tryd.ntmps45
 go_upto_region 1 with (fail)
 go_cut [17] (fun v17 wc => ∃ (kq : Nat) (x17_2 : Bool), v17 = .bool x17_2 ∧ Aside0 (pack_TakeNumber.j0 kq a0 a1 x17_2 = some (r1, r2, r3)) ∧ Aside0 (kq ≤ k) ∧ Drawn0 w wc)
 case first =>
  have H := HC3.out
  clear HC3
  by_cases c4 : a1 < 0
  ·rw [if_pos c4] at H
   have c4b0 : decide (a1 < 0) = true := decide_eq_true c4
   clear c4
   (first | rw [c4b0] | (simp only [i64_w, i32_w]; rw [c4b0]) | skip)
   have H' := Aside0.mk H
   clear H
   go_wp2
   go_meet
   case rel => exact ⟨_, (true), (by first | rfl | (simp; done) | (simp [*]; done)), H', ⟨by first | omega | exact Nat.le_refl _⟩, by repeat (first | exact Drawn0.refl _ | apply Drawn0.step)⟩
  ·rw [if_neg c4] at H
   have c4b0 : decide (a1 < 0) = false := decide_eq_false c4
   clear c4
   (first | rw [c4b0] | (simp only [i64_w, i32_w]; rw [c4b0]) | skip)
   have H' := Aside0.mk H
   clear H
   go_wp2
   go_meet
   case rel => exact ⟨_, (decide (a1 > (a0.size : Int))), (by first | rfl | (simp; done) | (simp [*]; done)), H', ⟨by first | omega | exact Nat.le_refl _⟩, by repeat (first | exact Drawn0.refl _ | apply Drawn0.step)⟩
 case rest =>
  clear HC3
  try clear p2
  try clear c4
  try clear c4b0
  obtain ⟨kq, x17_2, rfl, HA, HJ2, ⟨mc2, rfl⟩⟩ := hcut
  cases kq with
  | zero => exact absurd HA.out (by simp [pack_TakeNumber.j0])
  | succ kj2 =>
   have H := HA.out
   clear HA
   simp only [pack_TakeNumber.j0] at H
   by_cases c5 : x17_2 = true
   ·subst c5
    have H1 : (some (0, 0, 2)) = some (r1, r2, r3) := by rw [if_pos rfl] at H; exact H
    clear H
    have H := H1
    clear H1
    simp only [Option.some.injEq, Prod.mk.injEq] at H
    obtain ⟨rfl, rfl, rfl⟩ := H
    go_wp2
    go_ret3
    exact ⟨by first | rfl | (simp; done) | (simp [*]; done), by repeat (first | exact Drawn0.refl _ | apply Drawn0.step)⟩
   ·replace c5 := Bool.eq_false_iff.mpr c5
    subst c5
    have H1 : (pack_TakeNumber.l0 kj2 a0 a1 0 0) = some (r1, r2, r3) := by rw [if_neg (show ¬ (false = true) by decide)] at H; exact H
    clear H
    have H := H1
    clear H1
    have H' := Aside0.mk H
    clear H
    go_wp2
    go_loopg [7, 18] kj2 (fun kq v7 v18 w' => ∃ (x7_2 : Int) (x18_2 : Int), v7 = .int .u64 x7_2 ∧ v18 = .int .i64 x18_2 ∧ Aside0 (pack_TakeNumber.l0 kq a0 a1 x7_2 x18_2 = some (r1, r2, r3)) ∧ Aside0 (kq ≤ kj2) ∧ Drawn0 w w')
    case atStart => exact ⟨(0), (0), (by first | rfl | (simp; done) | (simp [*]; done)), (by first | rfl | (simp; done) | (simp [*]; done)), H', ⟨Nat.le_refl _⟩, by repeat (first | exact Drawn0.refl _ | apply Drawn0.step)⟩
    case round =>
     clear H'
     try clear c2
     try clear p2
     try clear c4
     try clear c4b0
     try clear c5
     try clear p2
     obtain ⟨x7_2, x18_2, rfl, rfl, HA, HK2, ⟨m2, rfl⟩⟩ := hrel
     cases gk with
     | zero => exact absurd HA.out (by simp [pack_TakeNumber.l0])
     | succ k2 =>
      have H := HA.out
      clear HA
      simp only [pack_TakeNumber.l0] at H
      by_cases c6 : x18_2 < 10
      ·rw [if_pos c6] at H
       have c6b0 : decide (x18_2 < 10) = true := decide_eq_true c6
       clear c6
       by_cases c7 : (wrap64 (a1 + x18_2)) = (a0.size : Int)
       ·rw [if_pos c7] at H
        have c7b0 : ((wrap64 (a1 + x18_2)) == (a0.size : Int)) = true := beq_iff_eq.mpr c7
        have c7b1 : ((wrap64 (a1 + x18_2)) != (a0.size : Int)) = false := bne_eq_false_iff_eq.mpr c7
        clear c7
        simp only [Option.some.injEq, Prod.mk.injEq] at H
        obtain ⟨rfl, rfl, rfl⟩ := H
        go_wp2
        go_ret3
        exact ⟨by first | rfl | (simp; done) | (simp [*]; done), by repeat (first | exact Drawn0.refl _ | apply Drawn0.step)⟩
       ·rw [if_neg c7] at H
        have c7b0 : ((wrap64 (a1 + x18_2)) == (a0.size : Int)) = false := beq_eq_false_iff_ne.mpr c7
        have c7b1 : ((wrap64 (a1 + x18_2)) != (a0.size : Int)) = true := bne_iff_ne.mpr c7
        obtain ⟨ji8, hji8⟩ : ∃ j_ : Int, (wrap64 (a1 + x18_2)) = j_ := ⟨_, rfl⟩
        replace H : (if 0 ≤ (ji8) then (if (ji8) < (a0.size : Int) then (if x18_2 = 9 then (pack_TakeNumber.j2 k2 a0 a1 x7_2 x18_2 (bt a0 (ji8)) x18_2 (decide ((bt a0 (ji8)) > 1))) else (pack_TakeNumber.j2 k2 a0 a1 x7_2 x18_2 (bt a0 (ji8)) x18_2 false)) else (none)) else (none)) = some (r1, r2, r3) := by first | (rw [hji8] at H; exact H) | (simp only [hji8] at H ⊢; exact H)
        (try rw [hji8] at c7b0)
        (try rw [hji8] at c7b1)
        have hji8w : (IntKind.i64.wrap (a1 + x18_2)) = ji8 := (i64_w _).trans hji8
        by_cases c9 : 0 ≤ (ji8)
        ·rw [if_pos c9] at H
         have c9b0 : decide (0 ≤ (ji8)) = true := decide_eq_true c9
         clear c9
         by_cases c10 : (ji8) < (a0.size : Int)
         ·rw [if_pos c10] at H
          have c10b0 : decide ((ji8) < (a0.size : Int)) = true := decide_eq_true c10
          clear c10
          have HC12 := Aside0.mk H
          clear H
          have p11 : 0 ≤ ((ji8) : Int) := of_decide_eq_true (by first | (with_reducible assumption) | assumption)
          have q11 : (ji8) < (a0.size : Int) := of_decide_eq_true (by first | (with_reducible assumption) | assumption)
          have hx11 := bt_at a0 (ji8)
          replace p11 := eq_true p11
          replace q11 := eq_true q11
          go_upto_region 10 with (fail)
          go_cut [37] (fun v37 wc => ∃ (kq : Nat) (x37_11 : Bool), v37 = .bool x37_11 ∧ Aside0 (pack_TakeNumber.j2 kq a0 a1 x7_2 x18_2 (bt a0 (ji8)) x18_2 x37_11 = some (r1, r2, r3)) ∧ Aside0 (kq ≤ k2) ∧ Drawn0 w wc)
          case first =>
           have H := HC12.out
           clear HC12
           by_cases c13 : x18_2 = 9
           ·rw [if_pos c13] at H
            have c13b0 : (x18_2 == 9) = true := beq_iff_eq.mpr c13
            have c13b1 : (x18_2 != 9) = false := bne_eq_false_iff_eq.mpr c13
            clear c13
            (first | rw [c13b0] | (simp only [i64_w, i32_w]; rw [c13b0]) | skip)
            have H' := Aside0.mk H
            clear H
            go_wp2
            (first | go_meet | (simp only [← hji8]; go_meet))
            case rel => first | (exact ⟨_, (decide ((bt a0 (ji8)) > 1)), (by first | rfl | (simp; done) | (simp only [← hji8] <;> (first | rfl | (simp; done) | (simp; exact (fun (l_ : List UInt8) => show l_.isEmpty = !(l_ != []) from (by cases l_ <;> rfl)) _))) | (simp [*]; done)), H', ⟨by have := HJ2.out; have := HK2.out; first | omega | exact Nat.le_refl _⟩, by repeat (first | exact Drawn0.refl _ | apply Drawn0.step)⟩) | (exact ⟨_, (decide ((bt a0 (ji8)) > 1)), (by first | rfl | (simp; done) | (simp only [← hji8] <;> (first | rfl | (simp; done) | (simp; exact (fun (l_ : List UInt8) => show l_.isEmpty = !(l_ != []) from (by cases l_ <;> rfl)) _))) | (simp [*]; done)), (by simp only [← hji8] at H' ⊢; exact H'), ⟨by have := HJ2.out; have := HK2.out; first | omega | exact Nat.le_refl _⟩, by repeat (first | exact Drawn0.refl _ | apply Drawn0.step)⟩)
           ·rw [if_neg c13] at H
            have c13b0 : (x18_2 == 9) = false := beq_eq_false_iff_ne.mpr c13
            have c13b1 : (x18_2 != 9) = true := bne_iff_ne.mpr c13
            (first | rw [c13b0] | (simp only [i64_w, i32_w]; rw [c13b0]) | skip)
            have H' := Aside0.mk H
            clear H
            go_wp2
            (first | go_meet | (simp only [← hji8]; go_meet))
            case rel => first | (exact ⟨_, (false), (by first | rfl | (simp; done) | (simp [*]; done)), H', ⟨by have := HJ2.out; have := HK2.out; first | omega | exact Nat.le_refl _⟩, by repeat (first | exact Drawn0.refl _ | apply Drawn0.step)⟩) | (exact ⟨_, (false), (by first | rfl | (simp; done) | (simp [*]; done)), (by simp only [← hji8] at H' ⊢; exact H'), ⟨by have := HJ2.out; have := HK2.out; first | omega | exact Nat.le_refl _⟩, by repeat (first | exact Drawn0.refl _ | apply Drawn0.step)⟩)
          case rest =>
           clear HC12
           try clear c1
           try clear p1
           try clear q1
           try clear hx1
           try clear c2
           try clear p2
           try clear c4
           try clear c4b0
           try clear c5
           try clear c6
           try clear c6b0
           try clear p6
           try clear c7
           try clear c7b0
           try clear c7b1
           try clear c9
           try clear c9b0
           try clear c10
           try clear c10b0
           try clear p11
           try clear q11
           try clear hx11
           try clear c13
           try clear c13b0
           try clear c13b1
           try clear p11
           try clear p2
           try clear q11
           obtain ⟨kq, x37_11, rfl, HA, HJ11, ⟨mc11, rfl⟩⟩ := hcut
           cases kq with
           | zero => exact absurd HA.out (by simp [pack_TakeNumber.j2])
           | succ kj11 =>
            have H := HA.out
            clear HA
            simp only [pack_TakeNumber.j2] at H
            by_cases c14 : x37_11 = true
            ·subst c14
             have H1 : (some (0, 0, 11)) = some (r1, r2, r3) := by rw [if_pos rfl] at H; exact H
             clear H
             have H := H1
             clear H1
             simp only [Option.some.injEq, Prod.mk.injEq] at H
             obtain ⟨rfl, rfl, rfl⟩ := H
             go_wp2
             go_ret3
             exact ⟨by first | rfl | (simp; done) | (simp only [← hji8] <;> (first | rfl | (simp; done) | (simp; exact (fun (l_ : List UInt8) => show l_.isEmpty = !(l_ != []) from (by cases l_ <;> rfl)) _))) | (simp [*]; done), by repeat (first | exact Drawn0.refl _ | apply Drawn0.step)⟩
            ·replace c14 := Bool.eq_false_iff.mpr c14
             subst c14
             have H1 : (if 0 ≤ (IntKind.u64.wrap (wrap64 (7 * x18_2))) then (if (bt a0 (ji8)) ≥ 128 then (pack_TakeNumber.l0 kj11 a0 a1 (Go.bits .or .u64 x7_2 (shl .u64 (IntKind.u64.wrap (Go.bits .and .u8 (bt a0 (ji8)) 127)) (IntKind.u64.wrap (wrap64 (7 * x18_2))))) (wrap64 (x18_2 + 1))) else (if (bt a0 (ji8)) = 0 then (if x18_2 > 0 then (some (0, 0, 11)) else (some (Go.bits .or .u64 x7_2 (shl .u64 (IntKind.u64.wrap (Go.bits .and .u8 (bt a0 (ji8)) 127)) (IntKind.u64.wrap (wrap64 (7 * x18_2)))), wrap64 ((wrap64 (a1 + x18_2)) + 1), 0))) else (some (Go.bits .or .u64 x7_2 (shl .u64 (IntKind.u64.wrap (Go.bits .and .u8 (bt a0 (ji8)) 127)) (IntKind.u64.wrap (wrap64 (7 * x18_2)))), wrap64 ((wrap64 (a1 + x18_2)) + 1), 0)))) else (none)) = some (r1, r2, r3) := by rw [if_neg (show ¬ (false = true) by decide)] at H; exact H
             clear H
             have H := H1
             clear H1
             obtain ⟨ji15, hji15⟩ : ∃ j_ : Int, (IntKind.u64.wrap (wrap64 (7 * x18_2))) = j_ := ⟨_, rfl⟩
             replace H : (if 0 ≤ (ji15) then (if (bt a0 (ji8)) ≥ 128 then (pack_TakeNumber.l0 kj11 a0 a1 (Go.bits .or .u64 x7_2 (shl .u64 (IntKind.u64.wrap (Go.bits .and .u8 (bt a0 (ji8)) 127)) (ji15))) (wrap64 (x18_2 + 1))) else (if (bt a0 (ji8)) = 0 then (if x18_2 > 0 then (some (0, 0, 11)) else (some (Go.bits .or .u64 x7_2 (shl .u64 (IntKind.u64.wrap (Go.bits .and .u8 (bt a0 (ji8)) 127)) (ji15)), wrap64 ((wrap64 (a1 + x18_2)) + 1), 0))) else (some (Go.bits .or .u64 x7_2 (shl .u64 (IntKind.u64.wrap (Go.bits .and .u8 (bt a0 (ji8)) 127)) (ji15)), wrap64 ((wrap64 (a1 + x18_2)) + 1), 0)))) else (none)) = some (r1, r2, r3) := by first | (rw [hji15] at H; exact H) | (simp only [hji15] at H ⊢; exact H)
             by_cases c16 : 0 ≤ (ji15)
             ·rw [if_pos c16] at H
              have c16b0 := eq_true c16
              have c16b1 : decide (0 ≤ (ji15)) = true := decide_eq_true c16
              clear c16
              obtain ⟨ji17, hji17⟩ : ∃ j_ : Int, (shl .u64 (IntKind.u64.wrap (Go.bits .and .u8 (bt a0 (ji8)) 127)) (ji15)) = j_ := ⟨_, rfl⟩
              replace H : (if (bt a0 (ji8)) ≥ 128 then (pack_TakeNumber.l0 kj11 a0 a1 (Go.bits .or .u64 x7_2 (ji17)) (wrap64 (x18_2 + 1))) else (if (bt a0 (ji8)) = 0 then (if x18_2 > 0 then (some (0, 0, 11)) else (some (Go.bits .or .u64 x7_2 (ji17), wrap64 ((wrap64 (a1 + x18_2)) + 1), 0))) else (some (Go.bits .or .u64 x7_2 (ji17), wrap64 ((wrap64 (a1 + x18_2)) + 1), 0)))) = some (r1, r2, r3) := by first | (rw [hji17] at H; exact H) | (simp only [hji17] at H ⊢; exact H)
              have hji17_ : (IntKind.u64.wrap ((IntKind.u64.wrap (Go.bits .and .u8 (bt a0 (ji8)) 127)) * 2 ^ min (ji15).toNat 64)) = ji17 := hji17
              have hji17z : (ji15) ≤ 64 → (IntKind.u64.wrap ((IntKind.u64.wrap (Go.bits .and .u8 (bt a0 (ji8)) 127)) * 2 ^ (ji15).toNat)) = ji17 := shl_small hji17
              by_cases c18 : (bt a0 (ji8)) ≥ 128
              ·rw [if_pos c18] at H
               have c18b0 : decide (128 ≤ (bt a0 (ji8))) = true := decide_eq_true c18
               clear c18
               have H' := Aside0.mk H
               clear H
               go_wp2
               (first | go_roundg kj11 | (simp only [← hji8, ← hji15, ← hji17]; go_roundg kj11))
               case measure => have := HJ2.out; have := HK2.out; have := HJ11.out; omega
               case rel => first | (exact ⟨(Go.bits .or .u64 x7_2 (ji17)), (wrap64 (x18_2 + 1)), (by first | rfl | (simp; done) | (simp only [← hji17] <;> (first | rfl | (simp; done) | (simp; exact (fun (l_ : List UInt8) => show l_.isEmpty = !(l_ != []) from (by cases l_ <;> rfl)) _))) | (simp [*]; done)), (by first | rfl | (simp; done) | (simp [*]; done)), H', ⟨by have := HJ2.out; have := HK2.out; have := HJ11.out; omega⟩, by repeat (first | exact Drawn0.refl _ | apply Drawn0.step)⟩) | (exact ⟨(Go.bits .or .u64 x7_2 (ji17)), (wrap64 (x18_2 + 1)), (by first | rfl | (simp; done) | (simp only [← hji17] <;> (first | rfl | (simp; done) | (simp; exact (fun (l_ : List UInt8) => show l_.isEmpty = !(l_ != []) from (by cases l_ <;> rfl)) _))) | (simp [*]; done)), (by first | rfl | (simp; done) | (simp [*]; done)), (by simp only [← hji8, ← hji15, ← hji17] at H' ⊢; exact H'), ⟨by have := HJ2.out; have := HK2.out; have := HJ11.out; omega⟩, by repeat (first | exact Drawn0.refl _ | apply Drawn0.step)⟩)
              ·rw [if_neg c18] at H
               have c18b0 : decide (128 ≤ (bt a0 (ji8))) = false := decide_eq_false c18
               clear c18
               by_cases c19 : (bt a0 (ji8)) = 0
               ·rw [if_pos c19] at H
                have c19b0 : ((bt a0 (ji8)) == 0) = true := beq_iff_eq.mpr c19
                have c19b1 : ((bt a0 (ji8)) != 0) = false := bne_eq_false_iff_eq.mpr c19
                clear c19
                by_cases c20 : x18_2 > 0
                ·rw [if_pos c20] at H
                 have c20b0 : decide (0 < x18_2) = true := decide_eq_true c20
                 clear c20
                 simp only [Option.some.injEq, Prod.mk.injEq] at H
                 obtain ⟨rfl, rfl, rfl⟩ := H
                 go_wp2
                 go_ret3
                 exact ⟨by first | rfl | (simp; done) | (simp only [← hji8, ← hji15, ← hji17] <;> (first | rfl | (simp; done) | (simp; exact (fun (l_ : List UInt8) => show l_.isEmpty = !(l_ != []) from (by cases l_ <;> rfl)) _))) | (simp [*]; done), by repeat (first | exact Drawn0.refl _ | apply Drawn0.step)⟩
                ·rw [if_neg c20] at H
                 have c20b0 : decide (0 < x18_2) = false := decide_eq_false c20
                 clear c20
                 simp only [Option.some.injEq, Prod.mk.injEq] at H
                 obtain ⟨rfl, rfl, rfl⟩ := H
                 go_wp2
                 go_ret3
                 exact ⟨by first | rfl | (simp; done) | (simp only [← hji8, ← hji15, ← hji17] <;> (first | rfl | (simp; done) | (simp; exact (fun (l_ : List UInt8) => show l_.isEmpty = !(l_ != []) from (by cases l_ <;> rfl)) _))) | (simp [*]; done), by repeat (first | exact Drawn0.refl _ | apply Drawn0.step)⟩
               ·rw [if_neg c19] at H
                have c19b0 : ((bt a0 (ji8)) == 0) = false := beq_eq_false_iff_ne.mpr c19
                have c19b1 : ((bt a0 (ji8)) != 0) = true := bne_iff_ne.mpr c19
                simp only [Option.some.injEq, Prod.mk.injEq] at H
                obtain ⟨rfl, rfl, rfl⟩ := H
                go_wp2
                go_ret3
                exact ⟨by first | rfl | (simp; done) | (simp only [← hji8, ← hji15, ← hji17] <;> (first | rfl | (simp; done) | (simp; exact (fun (l_ : List UInt8) => show l_.isEmpty = !(l_ != []) from (by cases l_ <;> rfl)) _))) | (simp [*]; done), by repeat (first | exact Drawn0.refl _ | apply Drawn0.step)⟩
             ·rw [if_neg c16] at H
              exact absurd H (by simp)
         ·rw [if_neg c10] at H
          exact absurd H (by simp)
        ·rw [if_neg c9] at H
         exact absurd H (by simp)
      ·rw [if_neg c6] at H
       have c6b0 : decide (x18_2 < 10) = false := decide_eq_false c6
       clear c6
       simp only [Option.some.injEq, Prod.mk.injEq] at H
       obtain ⟨rfl, rfl, rfl⟩ := H
       go_wp2
       go_ret3
       exact ⟨by first | rfl | (simp; done) | (simp [*]; done), by repeat (first | exact Drawn0.refl _ | apply Drawn0.step)⟩

end Go.Proofs.YtlaeihdldofkcaaDoor.PN

/- The wheel's small calls. -/
import Derived.Test.YtcknocglaimcpaaPWx0
import Derived.Test.YtcknocglaimcpaaWp3
import Derived.Deep.RegionLaw
namespace Go.Proofs.Ytcknocglaimcpaa.WA
open Go.RowKit Go.Proofs.YtcknocglaimcpaaW.PrintWords Go.Proofs.YtcknocglaimcpaaW.PrintLast Go.Proofs.YtcknocglaimcpaaW.PrintMore
open Go.Proofs.Ytcknocglaimcpaa.PW Go.Proofs.Ytcknocglaimcpaa.Wh
set_option linter.unusedVariables false
set_option linter.unusedSimpArgs false
set_option maxHeartbeats 8000000
set_option maxRecDepth 100000
theorem none_nil (w : World) : Calls Try.prog 26 #[.pointer none] w fun e w' => e = .returned (.bool true) ∧ w' = w := by
  go_enter Try.func26, Try.ntmps26
  go_wp2
  go_ret
  exact ⟨rfl, rfl⟩
theorem none_at (w : World) (b : Nat) (m : Bool) (hc : w.cell? ⟨b, 0, none⟩ = some (.bool m)) : Calls Try.prog 26 #[.pointer (some ⟨b, 0, none⟩)] w fun e w' => e = .returned (.bool (!m)) ∧ w' = w := by
  have hu := Try.underlying62
  go_enter Try.func26, Try.ntmps26
  go_wp2
  go_ret
  exact ⟨rfl, rfl⟩
theorem now_at (w : World) (b : Nat) (n : Int) (hc : w.cell? ⟨b, 0, none⟩ = some (.bool true)) (h1 : w.cell? ⟨b, 1, none⟩ = some (.int .i64 n)) : Calls Try.prog 11 #[.pointer (some ⟨b, 0, none⟩)] w fun e w' => e = .returned (.int .i64 n) ∧ w' = w := by
  have hu := Try.underlying62
  have hn := none_at w b true hc
  go_enter Try.func11, Try.ntmps11
  go_wp2_with (go_at_call 26; refine hn.mono ?_; rintro e w' ⟨rfl, rfl⟩)
  go_ret
  exact ⟨rfl, rfl⟩
theorem now_nil (w : World) : Calls Try.prog 11 #[.pointer none] w fun e w' => e = .returned (.int .i64 0) ∧ w' = w := by
  have hu := Try.underlying62
  have hn := none_nil w
  go_enter Try.func11, Try.ntmps11
  go_wp2_with (go_at_call 26; refine hn.mono ?_; rintro e w' ⟨rfl, rfl⟩)
  go_ret
  exact ⟨rfl, rfl⟩
theorem wrap64_of' (x : Int) (h0 : -9223372036854775808 ≤ x) (h1 : x ≤ 9223372036854775807) : IntKind.i64.wrap x = x := by
  unfold IntKind.wrap
  simp [IntKind.bits, IntKind.signed]
  omega
theorem wrap64_is {x : Int} (h0 : -9223372036854775808 ≤ x) (h1 : x ≤ 9223372036854775807) : wrap64 x = x := by
  rw [← Go.IntWalk.i64_left]; exact wrap64_of' x h0 h1
theorem info38 : (Try.prog.info? 38).map (fun i => (i.zero, i.size, i.bytes)) = some (some (.agg #[.string ⟨#[]⟩, .int .i64 0]), 2, 24) := by kernel_rfl
theorem below_lower {w w1 : World} {B B' : Nat} (h : Below B w w1) (hb : B' ≤ B) : Below B' w w1 := ⟨h.os, h.tape, h.output, h.size, fun i hi => h.block i (Nat.lt_of_lt_of_le hi hb)⟩
theorem drewN_two (w : World) (a b : Nat) : (w.drewN a).drewN b = w.drewN (a + b) := by
  unfold World.drewN
  simp [Nat.add_assoc]
theorem cell_blk {w w1 : World} {b : Nat} (h : w1.heap[b]? = w.heap[b]?) (j : Nat) : w1.cell? ⟨b, j, none⟩ = w.cell? ⟨b, j, none⟩ := by unfold World.cell?; rw [h]
theorem frozen_blk {w w1 : World} {b : Nat} (h : w1.heap[b]? = w.heap[b]?) (j : Nat) : w1.frozen? ⟨b, j, none⟩ = w.frozen? ⟨b, j, none⟩ := by unfold World.frozen?; rw [h]
/-- put's walk up to the place: how far the wheels are gone through. -/
theorem put_walk (w : World) (b : Nat) (n : Int) (key : ByteArray) (a : Int) (h1 : w.cell? ⟨b, 1, none⟩ = some (.int .i64 n)) (h0 : 0 ≤ n) (h2 : n ≤ a) (h3 : a ≤ 1000000000) (base : Nat) (hbase : base ≤ w.heap.size) (ok : Nat → Prop) (hok : ∀ g, w.heap.size ≤ g → ok g) (hokb : ¬ ok b) (v : Value) (xs : List S38) (hx : xs.length ≤ 1000) (hv : w.cell? ⟨b, 3 + lev n a * 32 + idx (lev n a) a, none⟩ = some v) (hf : w.frozen? ⟨b, 3 + lev n a * 32 + idx (lev n a) a, none⟩ = false) (hR : k38.R 38 w base ok v xs) : Calls Try.prog 27 #[.pointer (some ⟨b, 0, none⟩), .agg #[.string key, .int .i64 a]] w fun e w' => e = .returned (.tuple #[]) ∧ ∃ (v1 : Value) (w1 : World), w' = w1.setCell ⟨b, 3 + lev n a * 32 + idx (lev n a) a, none⟩ v1 ∧ k38.R 38 w1 base ok v1 (xs ++ [⟨key, a⟩]) ∧ Below base w w1 ∧
      (∀ g, g < w.heap.size → some g ≠ v.ownBlock → w1.heap[g]? = w.heap[g]?) ∧ (v1.ownBlock = v.ownBlock ∨ ∃ g, v1.ownBlock = some g ∧ w.heap.size ≤ g) := by
  have hu := Try.underlying62
  have hu38 := Try.underlying38
  have hu60 := Try.underlying60
  have hu59 := Try.underlying59
  have hz59 : ∀ w, (sizeOf 59).run Try.prog w = .ok 32 w := fun w => by kernel_rfl
  have hz35 : ∀ w, (sizeOf 35).run Try.prog w = .ok 1 w := fun w => by kernel_rfl
  have HP := Aside0.mk (And.intro hbase (And.intro hok (And.intro hokb hx)))
  have HV := Aside0.mk (And.intro hv (And.intro hf hR))
  clear hbase hok hokb hx hv hf hR
  have H1 := Aside0.mk h1
  have HN := Aside0.mk (And.intro h0 (And.intro h2 h3))
  have hbw : b < w.heap.size := World.block_lt_of_cell? _ _ h1
  have HBW := Aside0.mk hbw
  clear h1 h0 h2 h3 hbw
  go_enter Try.func27, Try.ntmps27
  go_wp2
  go_loopg [4, 5] 6 (fun kq v4 v5 w' => ∃ (l : Nat) (s : Int) (m : Nat), v4 = .int .i64 s ∧ v5 = .int .i64 l ∧ Aside0 (l + kq = 6 ∧ s = sp l ∧ l ≤ 5 ∧ levG n a (5 - l) l = lev n a) ∧ Aside0 (w' = (w.alloc (.cells #[.string key, .int .i64 a] 38)).drewN m))
  case atStart => exact ⟨0, 1, 0, rfl, rfl, ⟨rfl, rfl, by omega, rfl⟩, ⟨rfl⟩⟩
  case round =>
    obtain ⟨l, s, m, rfl, rfl, HL, HW⟩ := hrel
    have hB : Below w.heap.size w wr := by rw [HW.out]; exact pw_below_drewN (below_alloc (Below.refl _ _) _) _
    have hK : wr.heap[w.heap.size]? = some (.cells #[.string key, .int .i64 a] 38 (0, 0)) := by rw [HW.out]; exact blk_drewN (blk_new _ _) _
    have hc3 : wr.cell? ⟨w.heap.size, 1, none⟩ = some (.int .i64 a) := (blk_cell hK 1).trans rfl
    have hc1 : wr.cell? ⟨b, 1, none⟩ = some (.int .i64 n) := (hB.cell (p := ⟨b, 1, none⟩) HBW.out).trans H1.out
    have HB := Aside0.mk hB
    have HK := Aside0.mk hK
    clear hB hK
    have hs : (s = 0) = False := by
      obtain ⟨_, rfl, _⟩ := HL.out
      rcases (show l = 0 ∨ l = 1 ∨ l = 2 ∨ l = 3 ∨ l = 4 ∨ l = 5 by have := HL.out.2.2.1; omega) with rfl | rfl | rfl | rfl | rfl | rfl <;> decide
    have hA : ∃ A N : Int, A = a / s ∧ N = n / s ∧ IntKind.i64.wrap (Int.tdiv a s) = A ∧ IntKind.i64.wrap (Int.tdiv n s) = N ∧ IntKind.i64.wrap (A - N) = A - N ∧ 0 ≤ N ∧ N ≤ A ∧ A ≤ 1000000000 := by
      have hN := HN.out
      refine ⟨a / s, n / s, rfl, rfl, ?_⟩
      obtain ⟨_, rfl, hle, _⟩ := HL.out
      have ea : Int.tdiv a (sp l) = a / sp l := Int.tdiv_eq_ediv_of_nonneg (by omega)
      have en : Int.tdiv n (sp l) = n / sp l := Int.tdiv_eq_ediv_of_nonneg (by omega)
      have hr : 0 ≤ n / sp l ∧ n / sp l ≤ a / sp l ∧ a / sp l ≤ 1000000000 := by
        rcases (show l = 0 ∨ l = 1 ∨ l = 2 ∨ l = 3 ∨ l = 4 ∨ l = 5 by omega) with rfl | rfl | rfl | rfl | rfl | rfl <;> simp only [sp, Int.ediv_one] <;> omega
      rw [ea, en, wrap64_of' _ (by omega) (by omega), wrap64_of' _ (by omega) (by omega), wrap64_of' _ (by omega) (by omega)]
      exact ⟨rfl, rfl, rfl, hr.1, hr.2.1, hr.2.2⟩
    obtain ⟨A, N, hA, hN, e1, e2, e3, hr⟩ := hA
    obtain ⟨kk, e4, hkk, hki⟩ : ∃ kk : Nat, Int.tmod A 32 = (kk : Int) ∧ kk < 32 ∧ kk = idx l a := by
      refine ⟨idx l a, ?_, idx_lt _ _, rfl⟩
      rw [Int.tmod_eq_emod_of_nonneg (by omega)]
      unfold idx
      rw [← HL.out.2.1, ← hA]
      omega
    have HI := Aside0.mk hki
    clear hki
    have HA := Aside0.mk hA
    have HN' := Aside0.mk hN
    have HR := Aside0.mk hr
    clear hA hN hr
    have hl6 : (l : Int) < 6 := by have := HL.out.2.2.1; omega
    have hk32 : (kk : Int) < 32 := by omega
    by_cases hl5 : (l : Int) < 5
    case neg =>
      have hl5b : decide ((l : Int) < 5) = false := decide_eq_false hl5
      have HLV : Aside0 (l = lev n a) := ⟨by
        obtain ⟨_, _, hle, hlv⟩ := HL.out
        obtain rfl : l = 5 := by omega
        exact hlv⟩
      have hcs : wr.cell? ⟨b, 3 + l * 32 + kk, none⟩ = some v := by
        rw [HI.out, HLV.out]
        exact (HB.out.cell (p := ⟨b, _, none⟩) HBW.out).trans HV.out.1
      have hfs : wr.frozen? ⟨b, 3 + l * 32 + kk, none⟩ = false := by
        rw [HI.out, HLV.out]
        exact (HB.out.frozen (p := ⟨b, _, none⟩) HBW.out).trans HV.out.2.1
      have hcA : ∀ (m : Nat) (o : Obj), ((wr.drewN m).alloc o).cell? ⟨b, 3 + l * 32 + kk, none⟩ = some v := fun m o =>
        ((below_alloc (pw_below_drewN (Below.refl wr.heap.size wr) m) o).cell (p := ⟨b, _, none⟩) (Nat.lt_of_lt_of_le HBW.out HB.out.size)).trans hcs
      have hc4 : wr.cell? ⟨w.heap.size, 0, none⟩ = some (.string key) := (blk_cell HK.out 0).trans rfl
      have HO := Aside0.mk (Kd.R_below HV.out.2.2 HB.out)
      go_wp2
      go_quiet (fail)
      go_wp2
      go_quiet (fail)
      clear e1 e2 e3 e4 hs hl6 hk32 hc1
      go_wp2
      go_region_law (refine Kd.R_append_step k38 (w0 := w) base rfl (.tmp 41) (.tmp 43) 35 38 (.agg #[.string ⟨#[]⟩, .int .i64 0]) 24 rfl Try.underlying35 info38 rfl (by decide) (by omega) v xs ⟨key, a⟩ [.string key, .int .i64 a] ok (fun _ => False) rfl rfl (k38_mkM _ _ _ _) (fun _ hk => hk.elim) ?aF ?aO ?aB ?aS ?aL ?_; (case aF => intro g hg; exact HP.out.2.1 g (Nat.le_trans HB.out.size hg)); (case aO => refine Kd.R_below HO.out ?_; repeat (first | (with_reducible exact Below.refl _ _) | (with_reducible apply pw_below_drewN) | (with_reducible apply below_drew1))); (case aB => repeat (first | (with_reducible exact below_lower HB.out HP.out.1) | (with_reducible apply pw_below_drewN) | (with_reducible apply below_drew1))); (case aS => exact Nat.le_trans HP.out.1 HB.out.size); (case aL => have := HP.out.2.2.2; omega); intro v1 w1 ho hb hg hat; obtain ⟨A1, C1, e1_⟩ := Kd.R_slice ho; subst e1_; have hne : some b ≠ v.ownBlock := (fun e => HP.out.2.2.1 (HV.out.2.2.1 b e.symm)); have hq : w1.heap[b]? = wr.heap[b]? := hg.block b (Nat.lt_of_lt_of_le HBW.out HB.out.size) hne; have hc9 : w1.cell? ⟨b, 3 + l * 32 + kk, none⟩ = some v := (cell_blk hq _).trans hcs; have hf9 : w1.frozen? ⟨b, 3 + l * 32 + kk, none⟩ = false := (frozen_blk hq _).trans hfs; have N1 := Aside0.mk ho; have N2 := Aside0.mk hb; have N3 := Aside0.mk hg; have N4 := Aside0.mk hat; clear ho hb hg hat hne hq)
      all_goals
        go_end0
        refine ⟨rfl, _, w1, ?_, N1.out, N2.out, ?_, ?_⟩
        · rw [HI.out, HLV.out, List.length_append]; rfl
        · intro g hg hne
          exact (N3.out.block g (Nat.lt_of_lt_of_le hg HB.out.size) hne).trans (HB.out.block g hg)
        · rcases N4.out with h | ⟨g, h, hg⟩
          · exact .inl h
          · exact .inr ⟨g, h, Nat.le_trans HB.out.size hg⟩
    have hl5b : decide ((l : Int) < 5) = true := decide_eq_true hl5
    by_cases hd : 32 ≤ A - N
    · have hdb : decide (32 ≤ A - N) = true := decide_eq_true hd
      have E5 : Aside0 (wrap64 (s * 32) = s * 32) := ⟨by
        obtain ⟨_, rfl, _⟩ := HL.out
        rcases (show l = 0 ∨ l = 1 ∨ l = 2 ∨ l = 3 ∨ l = 4 by omega) with rfl | rfl | rfl | rfl | rfl <;> exact wrap64_is (by decide) (by decide)⟩
      have E6 : Aside0 (wrap64 ((l : Int) + 1) = ((l + 1 : Nat) : Int)) := ⟨by rw [wrap64_is (by omega) (by omega)]; omega⟩
      go_wp2
      go_quiet (fail)
      go_wp2
      go_roundg (gk - 1)
      case measure => have := HL.out.1; omega
      case rel =>
        refine ⟨l + 1, s * 32, m + nq, ?_, ?_, ⟨?_, ?_, by omega, ?_⟩, ⟨?_⟩⟩
        · first | rw [E5.out] | rfl
        · first | rw [E6.out] | (congr 1)
        · have := HL.out.1; omega
        · obtain ⟨_, rfl, _⟩ := HL.out
          rcases (show l = 0 ∨ l = 1 ∨ l = 2 ∨ l = 3 ∨ l = 4 by omega) with rfl | rfl | rfl | rfl | rfl <;> rfl
        · obtain ⟨_, hs2, hle, hlv⟩ := HL.out
          rw [← hlv]
          have e7 : 5 - l = (5 - (l + 1)) + 1 := by omega
          conv => rhs; rw [e7, levG]
          rw [if_pos ⟨by omega, by rw [← hs2, ← HA.out, ← HN'.out]; omega⟩]
        · rw [HW.out]; exact drewN_two _ _ _
    · have hdb : decide (32 ≤ A - N) = false := decide_eq_false hd
      have HLV : Aside0 (l = lev n a) := ⟨by
        obtain ⟨_, hs2, hle, hlv⟩ := HL.out
        rw [← hlv]
        have e7 : 5 - l = (5 - (l + 1)) + 1 := by omega
        rw [e7, levG, if_neg (fun h => hd (by have := h.2; rw [← hs2, ← HA.out, ← HN'.out] at this; omega))]⟩
      have hcs : wr.cell? ⟨b, 3 + l * 32 + kk, none⟩ = some v := by
        rw [HI.out, HLV.out]
        exact (HB.out.cell (p := ⟨b, _, none⟩) HBW.out).trans HV.out.1
      have hfs : wr.frozen? ⟨b, 3 + l * 32 + kk, none⟩ = false := by
        rw [HI.out, HLV.out]
        exact (HB.out.frozen (p := ⟨b, _, none⟩) HBW.out).trans HV.out.2.1
      have hcA : ∀ (m : Nat) (o : Obj), ((wr.drewN m).alloc o).cell? ⟨b, 3 + l * 32 + kk, none⟩ = some v := fun m o =>
        ((below_alloc (pw_below_drewN (Below.refl wr.heap.size wr) m) o).cell (p := ⟨b, _, none⟩) (Nat.lt_of_lt_of_le HBW.out HB.out.size)).trans hcs
      have hc4 : wr.cell? ⟨w.heap.size, 0, none⟩ = some (.string key) := (blk_cell HK.out 0).trans rfl
      have HO := Aside0.mk (Kd.R_below HV.out.2.2 HB.out)
      go_wp2
      go_quiet (fail)
      go_wp2
      go_quiet (fail)
      clear e1 e2 e3 e4 hs hl6 hk32 hc1
      go_wp2
      go_region_law (refine Kd.R_append_step k38 (w0 := w) base rfl (.tmp 41) (.tmp 43) 35 38 (.agg #[.string ⟨#[]⟩, .int .i64 0]) 24 rfl Try.underlying35 info38 rfl (by decide) (by omega) v xs ⟨key, a⟩ [.string key, .int .i64 a] ok (fun _ => False) rfl rfl (k38_mkM _ _ _ _) (fun _ hk => hk.elim) ?aF ?aO ?aB ?aS ?aL ?_; (case aF => intro g hg; exact HP.out.2.1 g (Nat.le_trans HB.out.size hg)); (case aO => refine Kd.R_below HO.out ?_; repeat (first | (with_reducible exact Below.refl _ _) | (with_reducible apply pw_below_drewN) | (with_reducible apply below_drew1))); (case aB => repeat (first | (with_reducible exact below_lower HB.out HP.out.1) | (with_reducible apply pw_below_drewN) | (with_reducible apply below_drew1))); (case aS => exact Nat.le_trans HP.out.1 HB.out.size); (case aL => have := HP.out.2.2.2; omega); intro v1 w1 ho hb hg hat; obtain ⟨A1, C1, e1_⟩ := Kd.R_slice ho; subst e1_; have hne : some b ≠ v.ownBlock := (fun e => HP.out.2.2.1 (HV.out.2.2.1 b e.symm)); have hq : w1.heap[b]? = wr.heap[b]? := hg.block b (Nat.lt_of_lt_of_le HBW.out HB.out.size) hne; have hc9 : w1.cell? ⟨b, 3 + l * 32 + kk, none⟩ = some v := (cell_blk hq _).trans hcs; have hf9 : w1.frozen? ⟨b, 3 + l * 32 + kk, none⟩ = false := (frozen_blk hq _).trans hfs; have N1 := Aside0.mk ho; have N2 := Aside0.mk hb; have N3 := Aside0.mk hg; have N4 := Aside0.mk hat; clear ho hb hg hat hne hq)
      all_goals
        go_end0
        refine ⟨rfl, _, w1, ?_, N1.out, N2.out, ?_, ?_⟩
        · rw [HI.out, HLV.out, List.length_append]; rfl
        · intro g hg hne
          exact (N3.out.block g (Nat.lt_of_lt_of_le hg HB.out.size) hne).trans (HB.out.block g hg)
        · rcases N4.out with h | ⟨g, h, hg⟩
          · exact .inl h
          · exact .inr ⟨g, h, Nat.le_trans HB.out.size hg⟩
end Go.Proofs.Ytcknocglaimcpaa.WA

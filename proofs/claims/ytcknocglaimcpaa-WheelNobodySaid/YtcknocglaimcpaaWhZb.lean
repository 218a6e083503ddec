/- WheelNobody: the walk. -/
import Derived.Test.YtcknocglaimcpaaWhZa
namespace Go.Proofs.Ytcknocglaimcpaa.WA
open Go.RowKit Go.Proofs.YtcknocglaimcpaaW.PrintWords Go.Proofs.YtcknocglaimcpaaW.PrintLast Go.Proofs.YtcknocglaimcpaaW.PrintMore
open Go.Proofs.Ytcknocglaimcpaa.PW Go.Proofs.Ytcknocglaimcpaa.Wh Go.Maps
set_option linter.unusedVariables false
set_option linter.unusedSimpArgs false
set_option maxHeartbeats 8000000
set_option maxRecDepth 100000
theorem now_none (w : World) (p : Value) (h : Calls Try.prog 26 #[p] w fun e w' => e = .returned (.bool true) ∧ w' = w) : Calls Try.prog 11 #[p] w fun e w' => e = .returned (.int .i64 0) ∧ w' = w := by
  go_enter Try.func11, Try.ntmps11
  go_wp2_with (go_at_call 26; refine h.mono ?_; rintro e w' ⟨rfl, rfl⟩)
  go_ret
  exact ⟨rfl, rfl⟩
theorem nobody_calls (key : ByteArray) (a : Int) (w : World) : Calls Try.prog 6 #[.string key, .int .i64 a] w fun e w' => e = .returned (.bool true) ∧ Below w.heap.size w w' := by
  have hu := Try.underlying62
  have hc : ∃ Z : Array Value, Aside0 (Z[0]? = some (.bool false)) ∧ (∀ w, (zeroValue 62).run Try.prog w = .ok (.agg Z) w) :=
    ⟨cells0, ⟨by simp [cells0]⟩, zero62⟩
  obtain ⟨Z, HZ, hz⟩ := hc
  go_enter Try.func6, Try.ntmps6
  go_wp2
  obtain ⟨w2, hw2⟩ : ∃ w2, w2 = (w.alloc (.cells Z 62)).alloc (.cells #[.pointer none, .pointer (some ⟨w.heap.size, 0, none⟩)] 24) := ⟨_, rfl⟩
  rw [← hw2]
  have HB : Aside0 (Below w.heap.size w w2) := ⟨by rw [hw2]; exact below_alloc (below_alloc (Below.refl _ _) _) _⟩
  have hn0 := none_nil w2
  have hn1 : Calls Try.prog 26 #[.pointer (some ⟨w.heap.size, 0, none⟩)] w2 fun e w' => e = .returned (.bool true) ∧ w' = w2 := none_at w2 w.heap.size false (by
    rw [hw2]
    exact (blk_cell (blk_alloc (blk_new w (.cells Z 62)) _) 0).trans HZ.out)
  have hr0 : w2.cell? ⟨w.heap.size + 1, 0, none⟩ = some (.pointer none) := by
    rw [hw2]
    have h := blk_new (w.alloc (.cells Z 62)) (.cells #[.pointer none, .pointer (some ⟨w.heap.size, 0, none⟩)] 24)
    have e : (w.alloc (.cells Z 62)).heap.size = w.heap.size + 1 := by simp
    rw [e] at h
    exact (blk_cell h 0).trans rfl
  have hr1 : w2.cell? ⟨w.heap.size + 1, 1, none⟩ = some (.pointer (some ⟨w.heap.size, 0, none⟩)) := by
    rw [hw2]
    have h := blk_new (w.alloc (.cells Z 62)) (.cells #[.pointer none, .pointer (some ⟨w.heap.size, 0, none⟩)] 24)
    have e : (w.alloc (.cells Z 62)).heap.size = w.heap.size + 1 := by simp
    rw [e] at h
    exact (blk_cell h 1).trans rfl
  clear hw2
  have haw := awake_calls w2
  have H0 := Aside0.mk hn0
  have H1 := Aside0.mk hn1
  have HA := Aside0.mk haw
  clear hn0 hn1 haw HZ hz
  go_loopg [15] 2 (fun kq v15 w' => ∃ i : Nat, v15 = .int .i64 i ∧ Aside0 (i + kq = 2) ∧ Aside0 (w' = w2))
  case atStart => exact ⟨0, rfl, ⟨rfl⟩, ⟨rfl⟩⟩
  case round =>
    obtain ⟨i, rfl, HI, HW⟩ := hrel
    obtain rfl := HW.out
    rcases (show i = 0 ∨ i = 1 ∨ i = 2 by have := HI.out; omega) with rfl | rfl | rfl
    · have k1 := skip_none wr (.pointer none) H0.out a
      have k2 := at_none wr (.pointer none) H0.out key
      have k3 := set_none wr (.pointer none) H0.out key a
      have k4 := now_none wr (.pointer none) H0.out
      have k5 := drop_none wr (.pointer none) H0.out key
      have k6 := all_none wr (.pointer none) H0.out
      have k7 := tick_none wr (.pointer none) H0.out
      go_wp2_with (first | (go_at_call 16; refine k1.mono ?_; rintro e w' ⟨rfl, rfl⟩) | (go_at_call 24; refine k2.mono ?_; rintro e w' ⟨rfl, rfl⟩) | (go_at_call 10; refine k3.mono ?_; rintro e w' ⟨rfl, rfl⟩) | (go_at_call 11; refine k4.mono ?_; rintro e w' ⟨rfl, rfl⟩) | (go_at_call 20; refine k5.mono ?_; rintro e w' ⟨rfl, rfl⟩) | (go_at_call 13; refine k6.mono ?_; rintro e w' ⟨rfl, rfl⟩) | (go_at_call 12; refine k7.mono ?_; rintro e w' ⟨rfl, rfl⟩))
      go_roundg 1
      case measure => have := HI.out; omega
      case rel => exact ⟨1, rfl, ⟨rfl⟩, ⟨rfl⟩⟩
    · have k1 := skip_none wr _ H1.out a
      have k2 := at_none wr _ H1.out key
      have k3 := set_none wr _ H1.out key a
      have k4 := now_none wr _ H1.out
      have k5 := drop_none wr _ H1.out key
      have k6 := all_none wr _ H1.out
      have k7 := tick_none wr _ H1.out
      go_wp2_with (first | (go_at_call 16; refine k1.mono ?_; rintro e w' ⟨rfl, rfl⟩) | (go_at_call 24; refine k2.mono ?_; rintro e w' ⟨rfl, rfl⟩) | (go_at_call 10; refine k3.mono ?_; rintro e w' ⟨rfl, rfl⟩) | (go_at_call 11; refine k4.mono ?_; rintro e w' ⟨rfl, rfl⟩) | (go_at_call 20; refine k5.mono ?_; rintro e w' ⟨rfl, rfl⟩) | (go_at_call 13; refine k6.mono ?_; rintro e w' ⟨rfl, rfl⟩) | (go_at_call 12; refine k7.mono ?_; rintro e w' ⟨rfl, rfl⟩))
      go_roundg 0
      case measure => have := HI.out; omega
      case rel => exact ⟨2, rfl, ⟨rfl⟩, ⟨rfl⟩⟩
    · go_wp2_with (go_at_call 7; refine HA.out.mono ?_; rintro e w' ⟨rfl, hb⟩; have HB2 := Aside0.mk hb; clear hb)
      go_ret
      exact ⟨rfl, below_trans HB.out (below_lower HB2.out HB.out.size)⟩
end Go.Proofs.Ytcknocglaimcpaa.WA

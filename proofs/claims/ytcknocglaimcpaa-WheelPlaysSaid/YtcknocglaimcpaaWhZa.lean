/- awake: the walk. -/
import Derived.Test.YtcknocglaimcpaaWhZ
namespace Go.Proofs.Ytcknocglaimcpaa.WA
open Go.RowKit Go.Proofs.YtcknocglaimcpaaW.PrintWords Go.Proofs.YtcknocglaimcpaaW.PrintLast Go.Proofs.YtcknocglaimcpaaW.PrintMore
open Go.Proofs.Ytcknocglaimcpaa.PW Go.Proofs.Ytcknocglaimcpaa.Wh Go.Maps
set_option linter.unusedVariables false
set_option linter.unusedSimpArgs false
set_option maxHeartbeats 8000000
set_option maxRecDepth 100000
theorem c1_of {w0 w : World} {col : Nat → Nat} {b bm : Nat} (h : AW w0 w col b bm (newS 0) []) : Calls Try.prog 10 #[.pointer (some ⟨b, 0, none⟩), .string ⟨#[97]⟩, .int .i64 3] w fun e w' => e = .returned (.int .i64 0) ∧ ∃ col, AW w0 w' col b bm s1 [(kA, 3)] := by
  refine (aw_set h (by decide) kA 3 (by decide)).mono ?_
  rintro e w' ⟨rfl, col', h', _⟩
  rw [l1] at h'
  exact ⟨by rw [s1_e], col', h'⟩
theorem c2_of {w0 w : World} {col : Nat → Nat} {b bm : Nat} (h : AW w0 w col b bm s1 [(kA, 3)]) : Calls Try.prog 10 #[.pointer (some ⟨b, 0, none⟩), .string ⟨#[98]⟩, .int .i64 2] w fun e w' => e = .returned (.int .i64 0) ∧ ∃ col, AW w0 w' col b bm s2 [(kB, 2), (kA, 3)] := by
  refine (aw_set h (by decide) kB 2 (by decide)).mono ?_
  rintro e w' ⟨rfl, col', h', _⟩
  rw [l2] at h'
  exact ⟨by rw [s2_e], col', h'⟩
theorem c3_of {w0 w : World} {col : Nat → Nat} {b bm : Nat} (h : AW w0 w col b bm s2 [(kB, 2), (kA, 3)]) : Calls Try.prog 10 #[.pointer (some ⟨b, 0, none⟩), .string ⟨#[98]⟩, .int .i64 5] w fun e w' => e = .returned (.int .i64 0) ∧ ∃ col, AW w0 w' col b bm s3 [(kA, 3), (kB, 5)] := by
  refine (aw_set h (by decide) kB 5 (by decide)).mono ?_
  rintro e w' ⟨rfl, col', h', _⟩
  rw [l3] at h'
  exact ⟨by rw [s3_e], col', h'⟩
theorem c4_of {w0 w : World} {col : Nat → Nat} {b bm : Nat} (h : AW w0 w col b bm s3 [(kA, 3), (kB, 5)]) : Calls Try.prog 10 #[.pointer (some ⟨b, 0, none⟩), .string ⟨#[120]⟩, .int .i64 0] w fun e w' => e = .returned (.int .i64 110) ∧ ∃ col, AW w0 w' col b bm s4 [(kA, 3), (kB, 5)] := by
  refine (aw_set h (by decide) kX 0 (by decide)).mono ?_
  rintro e w' ⟨rfl, col', h', _⟩
  rw [l4] at h'
  exact ⟨by rw [s4_e], col', h'⟩
theorem new_aw (w : World) (n : Int) (h0 : 0 ≤ n) (h1 : n ≤ 1000000000) : Calls Try.prog 8 #[.int .i64 n] w fun e w' => ∃ b bm col, e = .returned (.tuple #[.pointer (some ⟨b, 0, none⟩), .int .i64 0]) ∧ AW w w' col b bm (newS n) [] := by
  refine (new_calls w n h0 h1).mono ?_
  rintro e w' ⟨b, bm, D, cs, col, rfl, h, hb, ho⟩
  exact ⟨b, bm, col, rfl, h.wi, rel_new n h0 h1, fun t ht => absurd ht (by simp), by decide, hb, ho⟩
theorem awake_calls (w : World) : Calls Try.prog 7 #[] w fun e w' => e = .returned (.bool true) ∧ Below w.heap.size w w' := by
  have hu38 := Try.underlying38
  have hnew := new_aw w 0 (by decide) (by decide)
  go_enter Try.func7, Try.ntmps7
  go_wp2_with (first
    | (go_at_call 8; refine hnew.mono ?_; rintro e w1 ⟨b, bm, col, rfl, h⟩; have K1 := Aside0.mk (c1_of h); clear h)
    | (go_at_call 10; with_reducible refine K1.out.mono ?_; rintro e w2 ⟨rfl, col2, h⟩; have K2 := Aside0.mk (c2_of h); clear h)
    | (go_at_call 10; with_reducible refine K2.out.mono ?_; rintro e w3 ⟨rfl, col3, h⟩; have K3 := Aside0.mk (c3_of h); clear h)
    | (go_at_call 10; with_reducible refine K3.out.mono ?_; rintro e w4 ⟨rfl, col4, h⟩; have K4 := Aside0.mk (c4_of h); clear h)
    | (go_at_call 10; with_reducible refine K4.out.mono ?_; rintro e w5 ⟨rfl, col5, h⟩; have K5 := Aside0.mk (aw_skip h); clear h)
    | (go_at_call 16; with_reducible refine K5.out.mono ?_; rintro e w6 ⟨A6, C6, col6, st6, rfl, r6, h6, n6⟩; have K6 := Aside0.mk (aw_tick h6 n6 r6); clear r6 h6 n6)
    | (go_at_call 12; with_reducible refine K6.out.mono ?_; rintro e w7 ⟨C7, g0, g7, rfl, hb, rfl, c0, c1, d0, m0, m1⟩; have HB := Aside0.mk hb; have K7 := Aside0.mk (now_at w7 b 5 m0 m1); clear hb m0 m1)
    | (go_at_call 11; with_reducible refine K7.out.mono ?_; rintro e w8 ⟨rfl, rfl⟩))
  go_ret
  exact ⟨by first | rfl | simp, HB.out⟩
end Go.Proofs.Ytcknocglaimcpaa.WA

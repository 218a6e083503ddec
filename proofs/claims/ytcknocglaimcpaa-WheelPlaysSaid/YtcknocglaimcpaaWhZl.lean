/- The document's wheel: Set. -/
import Derived.Test.YtcknocglaimcpaaWhZk
namespace Go.Proofs.Ytcknocglaimcpaa.WA
open Go.RowKit Go.Proofs.YtcknocglaimcpaaW.PrintWords Go.Proofs.YtcknocglaimcpaaW.PrintLast Go.Proofs.YtcknocglaimcpaaW.PrintMore
open Go.Proofs.Ytcknocglaimcpaa.PW Go.Proofs.Ytcknocglaimcpaa.Wh Go.Maps
set_option linter.unusedVariables false
set_option linter.unusedSimpArgs false
set_option maxHeartbeats 8000000
set_option maxRecDepth 100000
theorem dset_arg (w : World) (r : Nat) (key : ByteArray) (a : Int) (h : key.size = 0 ∨ key.size > 100 ∨ a > far) : Calls Try.prog 19 #[.pointer (some ⟨r, 0, none⟩), .string key, .int .i64 a] w fun e w' => e = .returned (.int .i64 2) ∧ w' = w := by
  by_cases h1 : key.size = 0
  · have h1b : decide (key.size < 1) = true := decide_eq_true (by omega)
    have h1i : decide ((key.size : Int) < 1) = true := decide_eq_true (by omega)
    clear h
    go_enter Try.func19, Try.ntmps19
    go_wp2
    go_ret
    exact ⟨rfl, rfl⟩
  · have h1b : decide (key.size < 1) = false := decide_eq_false (by omega)
    have h1i : decide ((key.size : Int) < 1) = false := decide_eq_false (by omega)
    by_cases h2 : key.size > 100
    · have h2b : decide (100 < key.size) = true := decide_eq_true h2
      have h2i : decide ((100 : Int) < (key.size : Int)) = true := decide_eq_true (by omega)
      clear h
      go_enter Try.func19, Try.ntmps19
      go_wp2
      go_ret
      exact ⟨rfl, rfl⟩
    · have h2b : decide (100 < key.size) = false := decide_eq_false h2
      have h2i : decide ((100 : Int) < (key.size : Int)) = false := decide_eq_false (by omega)
      have h3b : decide (1000000000 < a) = true := decide_eq_true (by unfold far at h; omega)
      clear h
      go_enter Try.func19, Try.ntmps19
      go_wp2
      go_ret
      exact ⟨rfl, rfl⟩
theorem dset_time {w : World} {r : Nat} {time : Int} {A : Option Addr} {n c : Nat} {L : List Tm} (hD : DA w r time A n c L) (key : ByteArray) (a : Int) (h : ¬ (key.size = 0 ∨ key.size > 100 ∨ a > far)) (ht : a ≤ time) : Calls Try.prog 19 #[.pointer (some ⟨r, 0, none⟩), .string key, .int .i64 a] w fun e w' => e = .returned (.int .i64 110) ∧ w' = w := by
  have hu := Try.underlying51
  have h1 : ¬ key.size = 0 := fun e => h (.inl e)
  have h1b : decide (key.size < 1) = false := decide_eq_false (by omega)
  have h1i : decide ((key.size : Int) < 1) = false := decide_eq_false (by omega)
  have h2b : decide (100 < key.size) = false := decide_eq_false (by omega)
  have h2i : decide ((100 : Int) < (key.size : Int)) = false := decide_eq_false (by omega)
  have h3b : decide (1000000000 < a) = false := decide_eq_false (by unfold far at h; omega)
  have h4b : decide (a ≤ time) = true := decide_eq_true ht
  have c0 := hD.c0
  clear h hD ht
  go_enter Try.func19, Try.ntmps19
  go_wp2
  go_ret
  exact ⟨rfl, rfl⟩
theorem dset_big {w : World} {r : Nat} {time : Int} {A : Option Addr} {n c : Nat} {L : List Tm} (hD : DA w r time A n c L) (hl : n ≤ 1000) (key : ByteArray) (a : Int) (h : ¬ (key.size = 0 ∨ key.size > 100 ∨ a > far)) (ht : ¬ a ≤ time) (hk : lk L key = none) (hn : 200 ≤ n) : Calls Try.prog 19 #[.pointer (some ⟨r, 0, none⟩), .string key, .int .i64 a] w fun e w' => e = .returned (.int .i64 3) ∧ w' = w := by
  have hu := Try.underlying51
  have hat := dat_calls hD (by omega) key
  rw [hk] at hat
  have h1 : ¬ key.size = 0 := fun e => h (.inl e)
  have h1b : decide (key.size < 1) = false := decide_eq_false (by omega)
  have h1i : decide ((key.size : Int) < 1) = false := decide_eq_false (by omega)
  have h2b : decide (100 < key.size) = false := decide_eq_false (by omega)
  have h2i : decide ((100 : Int) < (key.size : Int)) = false := decide_eq_false (by omega)
  have h3b : decide (1000000000 < a) = false := decide_eq_false (by unfold far at h; omega)
  have h4b : decide (a ≤ time) = false := decide_eq_false ht
  have h5b : decide (200 ≤ n) = true := decide_eq_true hn
  have h5i : decide ((200 : Int) ≤ (n : Int)) = true := decide_eq_true (by omega)
  have c0 := hD.c0
  have c1 := hD.c1
  clear h hD ht hl hk hn
  go_enter Try.func19, Try.ntmps19
  go_wp2_with (go_at_call 25; refine hat.mono ?_; rintro e w1 ⟨rfl, rfl⟩)
  go_ret
  exact ⟨rfl, rfl⟩
end Go.Proofs.Ytcknocglaimcpaa.WA

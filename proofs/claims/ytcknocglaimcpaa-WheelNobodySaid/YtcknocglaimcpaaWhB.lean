/- The wheel's calls: New, At; those on wheels that no call made. -/
import Derived.Test.YtcknocglaimcpaaWhA
import Derived.Maps.OwnSet
namespace Go.Proofs.Ytcknocglaimcpaa.WA
open Go.RowKit Go.Proofs.YtcknocglaimcpaaW.PrintWords Go.Proofs.YtcknocglaimcpaaW.PrintLast Go.Proofs.YtcknocglaimcpaaW.PrintMore
open Go.Proofs.Ytcknocglaimcpaa.PW Go.Proofs.Ytcknocglaimcpaa.Wh
set_option linter.unusedVariables false
set_option linter.unusedSimpArgs false
set_option maxHeartbeats 8000000
set_option maxRecDepth 100000
theorem at_none (w : World) (p : Value) (h : Calls Try.prog 26 #[p] w fun e w' => e = .returned (.bool true) ∧ w' = w) (key : ByteArray) : Calls Try.prog 24 #[p, .string key] w fun e w' => e = .returned (.tuple #[.int .i64 0, .bool false]) ∧ w' = w := by
  go_enter Try.func24, Try.ntmps24
  go_wp2_with (go_at_call 26; refine h.mono ?_; rintro e w' ⟨rfl, rfl⟩)
  go_ret2
  exact ⟨rfl, rfl⟩
theorem drop_none (w : World) (p : Value) (h : Calls Try.prog 26 #[p] w fun e w' => e = .returned (.bool true) ∧ w' = w) (key : ByteArray) : Calls Try.prog 20 #[p, .string key] w fun e w' => e = .returned (.bool false) ∧ w' = w := by
  go_enter Try.func20, Try.ntmps20
  go_wp2_with (go_at_call 26; refine h.mono ?_; rintro e w' ⟨rfl, rfl⟩)
  go_ret
  exact ⟨rfl, rfl⟩
theorem set_none (w : World) (p : Value) (h : Calls Try.prog 26 #[p] w fun e w' => e = .returned (.bool true) ∧ w' = w) (key : ByteArray) (a : Int) : Calls Try.prog 10 #[p, .string key, .int .i64 a] w fun e w' => e = .returned (.int .i64 1) ∧ w' = w := by
  go_enter Try.func10, Try.ntmps10
  go_wp2_with (go_at_call 26; refine h.mono ?_; rintro e w' ⟨rfl, rfl⟩)
  go_ret
  exact ⟨rfl, rfl⟩
theorem all_none (w : World) (p : Value) (h : Calls Try.prog 26 #[p] w fun e w' => e = .returned (.bool true) ∧ w' = w) : Calls Try.prog 13 #[p] w fun e w' => e = .returned (.slice none 0 0) ∧ w' = w := by
  go_enter Try.func13, Try.ntmps13
  go_wp2_with (go_at_call 26; refine h.mono ?_; rintro e w' ⟨rfl, rfl⟩)
  go_ret
  exact ⟨rfl, rfl⟩
theorem tick_none (w : World) (p : Value) (h : Calls Try.prog 26 #[p] w fun e w' => e = .returned (.bool true) ∧ w' = w) : Calls Try.prog 12 #[p] w fun e w' => e = .returned (.slice none 0 0) ∧ w' = w := by
  go_enter Try.func12, Try.ntmps12
  go_wp2_with (go_at_call 26; refine h.mono ?_; rintro e w' ⟨rfl, rfl⟩)
  go_ret
  exact ⟨rfl, rfl⟩
theorem skip_none (w : World) (p : Value) (h : Calls Try.prog 26 #[p] w fun e w' => e = .returned (.bool true) ∧ w' = w) (n : Int) : Calls Try.prog 16 #[p, .int .i64 n] w fun e w' => e = .returned (.tuple #[.slice none 0 0, .int .i64 1]) ∧ w' = w := by
  go_enter Try.func16, Try.ntmps16
  go_wp2_with (go_at_call 26; refine h.mono ?_; rintro e w' ⟨rfl, rfl⟩)
  go_ret2
  exact ⟨rfl, rfl⟩
theorem new_no (w : World) (n : Int) (h : n < 0 ∨ n > 1000000000) : Calls Try.prog 8 #[.int .i64 n] w fun e w' => e = .returned (.tuple #[.pointer none, .int .i64 2]) ∧ w' = w := by
  by_cases h1 : n < 0
  · have h1b : decide (n < 0) = true := decide_eq_true h1
    go_enter Try.func8, Try.ntmps8
    go_wp2
    go_ret2
    exact ⟨rfl, rfl⟩
  · have h1b : decide (n < 0) = false := decide_eq_false h1
    have h2b : decide (1000000000 < n) = true := decide_eq_true (by omega)
    go_enter Try.func8, Try.ntmps8
    go_wp2
    go_ret2
    exact ⟨rfl, rfl⟩
/-- A wheel without timers, as its cells. -/
def cells0 : Array Value := #[.bool false, .int .i64 0, .map none] ++ Array.replicate 192 (.slice none 0 0)
theorem zero62 (w : World) : (zeroValue 62).run Try.prog w = .ok (.agg cells0) w := by kernel_rfl
def cellsN (n : Int) (bm : Nat) : Array Value := ((cells0.setIfInBounds 0 (.bool true)).setIfInBounds 1 (.int .i64 n)).setIfInBounds 2 (.map (some bm))
/-- New: one block for the map, one for the wheel. -/
theorem new_yes (w : World) (n : Int) (h0 : 0 ≤ n) (h1 : n ≤ 1000000000) : Calls Try.prog 8 #[.int .i64 n] w fun e w' => e = .returned (.tuple #[.pointer (some ⟨w.heap.size + 1, 0, none⟩), .int .i64 0]) ∧ w' = (w.alloc (.map #[] 0)).alloc (.cells (cellsN n w.heap.size) 62) := by
  have h1b : decide (n < 0) = false := decide_eq_false (by omega)
  have h2b : decide (1000000000 < n) = false := decide_eq_false (by omega)
  have hmm := @run_makeMap Try.prog
  have hu := Try.underlying62
  have hc : ∃ Z : Array Value, Aside0 (Z = cells0) ∧ (∀ w, (zeroValue 62).run Try.prog w = .ok (.agg Z) w) ∧ (Z = #[]) = False ∧ (Z.size < 2) = False ∧ (Z.size < 3) = False :=
    ⟨cells0, ⟨rfl⟩, zero62, eq_false (fun h => by have := congrArg Array.size h; simp [cells0] at this), eq_false (by simp [cells0]), eq_false (by simp [cells0])⟩
  obtain ⟨Z, HZ, hz, hz1, hz2, hz3⟩ := hc
  go_enter Try.func8, Try.ntmps8
  go_wp2
  go_ret2
  refine ⟨rfl, ?_⟩
  unfold cellsN
  rw [← HZ.out]
/-- The closure of Drop: is it this timer? -/
theorem same_calls (w : World) (x y : S38) (g : Nat) (h0 : w.cell? ⟨g, 0, none⟩ = some (.string y.f0)) (h1 : w.cell? ⟨g, 1, none⟩ = some (.int .i64 y.f1)) :
    Calls Try.prog 31 #[.agg #[.string x.f0, .int .i64 x.f1], .pointer (some ⟨g, 0, none⟩)] w fun e w' => e = .returned (.bool (decide (x.f0 = y.f0 ∧ x.f1 = y.f1))) ∧ w' = w.alloc (.cells #[.string x.f0, .int .i64 x.f1] 38) := by
  have hu38 := Try.underlying38
  have hl : g < w.heap.size := World.block_lt_of_cell? _ _ h0
  have hb : Below w.heap.size w (w.alloc (.cells #[.string x.f0, .int .i64 x.f1] 38)) := below_alloc (Below.refl _ _) _
  have h0' := (hb.cell (p := ⟨g, 0, none⟩) hl).trans h0
  have h1' := (hb.cell (p := ⟨g, 1, none⟩) hl).trans h1
  have HE : Aside0 (x.f0 = y.f0 ↔ x.f0.toList = y.f0.toList) := ⟨⟨fun h => by rw [h], fun h => by
    rw [ByteArray.toList_eq, ByteArray.toList_eq] at h
    exact ba_ext h⟩⟩
  clear hb h0 h1 hl
  by_cases hk : x.f0.toList = y.f0.toList
  · have hkb := eq_true hk
    by_cases ha : x.f1 = y.f1
    · have hab := eq_true ha
      have HD : Aside0 (decide (x.f0 = y.f0 ∧ x.f1 = y.f1) = true) := ⟨decide_eq_true ⟨HE.out.2 hk, ha⟩⟩
      clear hk ha
      go_enter Try.func31, Try.ntmps31
      go_wp2
      go_ret
      exact ⟨by rw [HD.out]; rfl, rfl⟩
    · have hab := eq_false ha
      have HD : Aside0 (decide (x.f0 = y.f0 ∧ x.f1 = y.f1) = false) := ⟨decide_eq_false (fun h => ha h.2)⟩
      clear hk ha
      go_enter Try.func31, Try.ntmps31
      go_wp2
      go_ret
      exact ⟨by rw [HD.out]; rfl, rfl⟩
  · have hkb := eq_false hk
    have HD : Aside0 (decide (x.f0 = y.f0 ∧ x.f1 = y.f1) = false) := ⟨decide_eq_false (fun h => hk (HE.out.1 h.1))⟩
    clear hk
    go_enter Try.func31, Try.ntmps31
    go_wp2
    go_ret
    exact ⟨by rw [HD.out]; rfl, rfl⟩
end Go.Proofs.Ytcknocglaimcpaa.WA

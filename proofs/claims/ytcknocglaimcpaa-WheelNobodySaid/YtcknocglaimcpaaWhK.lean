/- New, as a wheel in memory. -/
import Derived.Test.YtcknocglaimcpaaWhJ
namespace Go.Proofs.Ytcknocglaimcpaa.WA
open Go.RowKit Go.Proofs.YtcknocglaimcpaaW.PrintWords Go.Proofs.YtcknocglaimcpaaW.PrintLast Go.Proofs.YtcknocglaimcpaaW.PrintMore
open Go.Proofs.Ytcknocglaimcpaa.PW Go.Proofs.Ytcknocglaimcpaa.Wh Go.Maps
set_option linter.unusedVariables false
set_option linter.unusedSimpArgs false
theorem cellsN_size (n : Int) (bm : Nat) : (cellsN n bm).size = 195 := by simp [cellsN, cells0]
theorem cells0_slot (j : Nat) (h : 3 ≤ j) (h2 : j < 195) : cells0[j]? = some (.slice none 0 0) := by
  unfold cells0
  rw [Array.getElem?_append_right (by simpa using h), Array.getElem?_replicate]
  exact if_pos (by simp; omega)
theorem new_calls (w : World) (n : Int) (h0 : 0 ≤ n) (h1 : n ≤ 1000000000) : Calls Try.prog 8 #[.int .i64 n] w fun e w' => ∃ b bm D cs col, e = .returned (.tuple #[.pointer (some ⟨b, 0, none⟩), .int .i64 0]) ∧
    WAt w' w.heap.size col b bm 0 D cs (newS n) ∧ Below w.heap.size w w' := by
  refine (new_yes w n h0 h1).mono ?_
  rintro e w' ⟨rfl, rfl⟩
  refine ⟨w.heap.size + 1, w.heap.size, .map [], cellsN n w.heap.size, fun g => if g = w.heap.size + 1 then 200 else if g = w.heap.size then 201 else 202, rfl, ?_, below_alloc (below_alloc (Below.refl _ _) _) _⟩
  refine ⟨?_, cellsN_size _ _, ?_, ?_, ?_, ?_, by omega, by simp, by simp, ?_, ?_, Nat.le_refl _⟩
  · have := blk_new (w.alloc (.map #[] 0)) (.cells (cellsN n w.heap.size) 62)
    simpa using this
  · simp [cellsN, cells0]
  · simp [cellsN, cells0, newS]
  · simp [cellsN, cells0]
  · intro l k hl hk
    refine ⟨.slice none 0 0, ?_, Kd.R_nil _ _ _ _ _⟩
    unfold cellsN
    rw [Array.getElem?_setIfInBounds_ne (by omega), Array.getElem?_setIfInBounds_ne (by omega), Array.getElem?_setIfInBounds_ne (by omega)]
    exact cells0_slot _ (by omega) (by omega)
  · refine owns_same (World.ownsMap_made _ _ _ _) ?_
    exact (below_alloc (Below.refl _ (w.alloc (.map #[] 0))) _).block _ (by simp)
  · refine ⟨rfl, fun k kl _ => ⟨⟨rfl, fun a ha => ?_⟩, fun _ => rfl⟩⟩
    simp [newS] at ha
end Go.Proofs.Ytcknocglaimcpaa.WA

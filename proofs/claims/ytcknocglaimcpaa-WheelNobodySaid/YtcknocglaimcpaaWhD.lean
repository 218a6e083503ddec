/- slices.DeleteFunc with Drop's closure. -/
import Derived.Test.YtcknocglaimcpaaWhC
namespace Go.Proofs.Ytcknocglaimcpaa.WA
open Go.RowKit Go.Proofs.YtcknocglaimcpaaW.PrintWords Go.Proofs.YtcknocglaimcpaaW.PrintLast Go.Proofs.YtcknocglaimcpaaW.PrintMore
open Go.Proofs.Ytcknocglaimcpaa.PW Go.Proofs.Ytcknocglaimcpaa.Wh
set_option linter.unusedVariables false
set_option linter.unusedSimpArgs false
set_option maxHeartbeats 8000000
set_option maxRecDepth 100000
theorem ixT_none (y : S38) : ∀ (xs : List S38) (i : Nat), ixT y xs i = -1 → ∀ x ∈ xs, isT y x = false
  | [], _, _, x, hx => absurd hx (by simp)
  | z :: xs, i, h, x, hx => by
    unfold ixT at h
    by_cases e : isT y z = true
    · rw [if_pos e] at h; omega
    · rw [if_neg e] at h
      rcases List.mem_cons.1 hx with rfl | hx
      · simpa using e
      · exact ixT_none y xs (i + 1) h x hx
theorem ixT_some (y : S38) : ∀ (xs : List S38) (i : Nat), ixT y xs i ≠ -1 → ∃ j, j < xs.length ∧ ixT y xs i = ((i + j : Nat) : Int) ∧ (∀ k, k < j → ∀ h : k < xs.length, isT y xs[k] = false) ∧ ∀ h : j < xs.length, isT y xs[j] = true
  | [], _, h => absurd rfl h
  | z :: xs, i, h => by
    unfold ixT at h ⊢
    by_cases e : isT y z = true
    · rw [if_pos e]
      exact ⟨0, by simp, by simp, fun k hk => absurd hk (by omega), fun _ => e⟩
    · rw [if_neg e] at h ⊢
      obtain ⟨j, h1, h2, h3, h4⟩ := ixT_some y xs (i + 1) h
      refine ⟨j + 1, by simpa using h1, by rw [h2]; congr 1; omega, ?_, fun hj => h4 (by simpa using hj)⟩
      intro k hk hh
      match k with
      | 0 => simpa using e
      | k + 1 => exact h3 k (by omega) (by simpa using hh)
/-- Nothing to take out: the slice comes back as it is. -/
theorem delete_none (w : World) (A : Option Addr) (c : Nat) (xs : List S38) (y : S38) (g : Nat) (hC : Kd.C k38 w A xs.length xs) (hl : xs.length ≤ 1000000)
    (h0 : w.cell? ⟨g, 0, none⟩ = some (.string y.f0)) (h1 : w.cell? ⟨g, 1, none⟩ = some (.int .i64 y.f1)) (hn : ∀ x ∈ xs, isT y x = false) :
    Calls Try.prog 30 #[.slice A xs.length c, .func (.func 31) #[] #[.pointer (some ⟨g, 0, none⟩)]] w fun e w' => e = .returned (.slice A xs.length c) ∧ Below w.heap.size w w' := by
  have hi : ixT y xs 0 = -1 := by
    by_cases h : ixT y xs 0 = -1
    · exact h
    · obtain ⟨j, h1, _, _, h4⟩ := ixT_some y xs 0 h
      have := hn xs[j] (List.getElem_mem _)
      rw [h4 h1] at this
      cases this
  have hcall := index_calls w A c xs y g hC hl h0 h1
  rw [hi] at hcall
  clear hi hn h0 h1 hC hl
  go_enter Try.func30, Try.ntmps30
  go_wp2_with (go_at_call 37; refine hcall.mono ?_; rintro e w' ⟨rfl, hb⟩; have HB := Aside0.mk hb; clear hb)
  go_ret
  exact ⟨rfl, HB.out⟩
end Go.Proofs.Ytcknocglaimcpaa.WA

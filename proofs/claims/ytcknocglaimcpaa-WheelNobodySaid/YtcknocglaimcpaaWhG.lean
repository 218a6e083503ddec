/- slices.DeleteFunc with Drop's closure, on whatever row. -/
import Derived.Test.YtcknocglaimcpaaWhF
namespace Go.Proofs.Ytcknocglaimcpaa.WA
open Go.RowKit Go.Proofs.YtcknocglaimcpaaW.PrintWords Go.Proofs.YtcknocglaimcpaaW.PrintLast Go.Proofs.YtcknocglaimcpaaW.PrintMore
open Go.Proofs.Ytcknocglaimcpaa.PW Go.Proofs.Ytcknocglaimcpaa.Wh
set_option linter.unusedVariables false
set_option linter.unusedSimpArgs false
theorem grown_below {w w' : World} (h : Below w.heap.size w w') (row : Option Nat) : w.grownBy w' row := ⟨h.os, h.tape, h.output, h.size, fun i hi _ => h.block i hi⟩
/-- The timers that are not this one are left, in their order; other memory stays. -/
theorem delete_calls (w : World) (base : Nat) (ok : Nat → Prop) (v : Value) (xs : List S38) (y : S38) (g : Nat) (hR : k38.R 38 w base ok v xs) (hl : xs.length ≤ 1000000) (hok : ¬ ok g)
    (h0 : w.cell? ⟨g, 0, none⟩ = some (.string y.f0)) (h1 : w.cell? ⟨g, 1, none⟩ = some (.int .i64 y.f1)) :
    Calls Try.prog 30 #[v, .func (.func 31) #[] #[.pointer (some ⟨g, 0, none⟩)]] w fun e w' => ∃ v', e = .returned v' ∧ k38.R 38 w' base ok v' (xs.filter fun x => !isT y x) ∧ w.grownBy w' v.ownBlock := by
  by_cases hn : ixT y xs 0 = -1
  · have hall := ixT_none y xs 0 hn
    obtain ⟨A, c, rfl, hc, hC⟩ := Kd.R_reads hR
    have hf : xs.filter (fun x => !isT y x) = xs := by
      rw [List.filter_eq_self]
      intro x hx
      rw [hall x hx]
      rfl
    refine (delete_none w A c xs y g hC hl h0 h1 hall).mono ?_
    rintro e w' ⟨rfl, hb⟩
    exact ⟨_, rfl, by rw [hf]; exact Kd.R_below hR hb, grown_below hb _⟩
  · obtain ⟨k, hk, he, _, _⟩ := ixT_some y xs 0 hn
    obtain ⟨g0, cap, rfl, _, _, _⟩ := Kd.R_form hR (by omega)
    refine (delete_some w base ok g0 cap xs y g hR hl hok h0 h1 k hk (by rw [he]; congr 1; omega)).mono ?_
    rintro e w' ⟨rfl, hR', hg⟩
    exact ⟨_, rfl, hR', hg⟩
#print axioms delete_calls
end Go.Proofs.Ytcknocglaimcpaa.WA

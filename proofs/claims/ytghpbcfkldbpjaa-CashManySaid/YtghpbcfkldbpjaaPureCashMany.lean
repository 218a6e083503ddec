/- A product by a small number is the sum of as many; it is the same the other way round. -/
import Derived.Test.YtghpbcfkldbpjaaCashT
import Derived.Test.YtghpbcfkldbpjaaPCx7
namespace Go.Proofs.Ytghpbcfkldbpjaa.Pure
open Go.RowKit Go.Proofs.Ytghpbcfkldbpjaa.PC Go.Proofs.YtghpbcfkldbpjaaW.PrintWords Go.Proofs.Ytghpbcfkldbpjaa.B Go.Proofs.Ytghpbcfkldbpjaa.CA
theorem many_out : Ev (fun k => (ententelaw04_awake.f k).bind fun t => some t) true := Ev.bind awake_ev (Ev.now _)
theorem many_loop (a n : Int) (ha : I64 a) (hn : 0 ≤ n ∧ n ≤ 200) : ∀ (d i : Nat), (i : Int) + d = n →
    Ev (fun k => ententelaw04_CashMany.l0 k a n (timesRes a n).1 (timesRes a n).2 (List.replicate i a) (i : Int)) true := by
  intro d
  induction d with
  | zero =>
    intro i hi
    refine Ev.step (fun k => by rw [ententelaw04_CashMany.l0]) (ev_neg (by omega) ?_)
    have e : sumRes (List.replicate i a) = timesRes a n := by
      unfold sumRes timesRes
      rw [List.sum_replicate_int, show (i : Int) * a = a * n by rw [show n = (i : Int) by omega, Int.mul_comm]]
    refine Ev.bind (sum_ev (List.replicate i a) (fun x h => by rw [List.eq_of_mem_replicate h]; exact ha) (by rw [List.length_replicate]; omega)) ?_
    rw [e]
    exact ev_pos rfl (ev_pos rfl many_out)
  | succ d ih =>
    intro i hi
    refine Ev.step (fun k => by rw [ententelaw04_CashMany.l0]) (ev_pos (by omega) (ev_pos (by rw [List.length_replicate]; omega) ?_))
    rw [← List.replicate_succ', show wrap64 ((i : Int) + 1) = ((i + 1 : Nat) : Int) by rw [wrap64_of (by omega) (by omega)]; omega]
    exact ih (i + 1) (by omega)
theorem CashMany : ententelaw04_CashMany.Pure := by
  intro a n ha hn
  refine Ev.rounds (g := fun k => ententelaw04_CashMany.f k a n) ?_
  refine Ev.congr (fun k => by rw [ententelaw04_CashMany.f]) ?_
  have e : timesRes n a = timesRes a n := by unfold timesRes; rw [Int.mul_comm]
  refine Ev.bind (times_ev (i64_of_wf ha) (i64_of_wf hn)) (Ev.bind (e ▸ times_ev (i64_of_wf hn) (i64_of_wf ha)) (ev_pos rfl ?_))
  rw [show ((timesRes a n).2 != (timesRes a n).2) = false by simp]
  refine Ev.step (fun k => by rw [ententelaw04_CashMany.j0]) (ev_neg (by decide) ?_)
  have out : Ev (fun k => ententelaw04_CashMany.j1 k a n (timesRes a n).1 (timesRes a n).2 true) true := Ev.step (fun k => by rw [ententelaw04_CashMany.j1]) (ev_pos rfl many_out)
  refine ev_ite (fun _ => out) (fun c1 => ?_)
  by_cases c2 : n > 200
  · rw [show decide (n > 200) = true from decide_eq_true c2]; exact out
  · rw [show decide (n > 200) = false from decide_eq_false c2]
    refine Ev.step (fun k => by rw [ententelaw04_CashMany.j1]) (ev_neg (by decide) ?_)
    exact many_loop a n (i64_of_wf ha) ⟨by omega, by omega⟩ n.toNat 0 (by omega)
end Go.Proofs.Ytghpbcfkldbpjaa.Pure

/- The order of parts is of no matter to a sum, nor how it is parted, where the parts have sums (for up to 5000 amounts, as the statement asks). -/
import Derived.Test.YtghpbcfkldbpjaaCashA
import Derived.Test.YtghpbcfkldbpjaaPCx6
namespace Go.Proofs.Ytghpbcfkldbpjaa.Pure
open Go.RowKit Go.Proofs.Ytghpbcfkldbpjaa.PC Go.Proofs.YtghpbcfkldbpjaaW.PrintWords Go.Proofs.Ytghpbcfkldbpjaa.B Go.Proofs.Ytghpbcfkldbpjaa.CA
theorem order_out : Ev (fun k => (ententelaw04_awake.f k).bind fun t => some t) true := Ev.bind awake_ev (Ev.now _)
theorem order_end (l : List Int) (cut : Int) (hx : ∀ x ∈ l, I64 x) (hn : l.length ≤ 140737488355328) (h0 : 0 ≤ cut) (h1 : cut ≤ l.length) :
    Ev (fun k => ententelaw04_CashOrder.l0 k l cut l.reverse (-1)) true := by
  refine Ev.step (fun k => by rw [ententelaw04_CashOrder.l0]) ?_
  refine ev_neg (by omega) ?_
  have hr : sumRes l.reverse = sumRes l := by unfold sumRes; rw [List.sum_reverse]
  refine Ev.bind (sum_ev l hx hn) (Ev.bind (hr ▸ sum_ev l.reverse (fun x h => hx x (List.mem_reverse.1 h)) (by rw [List.length_reverse]; exact hn)) ?_)
  refine ev_pos rfl ?_
  rw [show ((sumRes l).2 != (sumRes l).2) = false by simp]
  refine Ev.step (fun k => by rw [ententelaw04_CashOrder.j2]) ?_
  refine ev_neg (by decide) (ev_pos h0 (ev_pos h1 ?_))
  have s1 := sum_ev (l.take cut.toNat) (fun x h => hx x (List.mem_of_mem_take h)) (by rw [List.length_take]; omega)
  have s2 := sum_ev (l.drop cut.toNat) (fun x h => hx x (List.mem_of_mem_drop h)) (by rw [List.length_drop]; omega)
  refine Ev.bind s1 (Ev.bind s2 ?_)
  have hs : l.sum = (l.take cut.toNat).sum + (l.drop cut.toNat).sum := by rw [← List.sum_append, List.take_append_drop]
  have bad : Ev (fun k => ententelaw04_CashOrder.j3 k (sumRes l).1 (sumRes l).2 (sumRes (l.take cut.toNat)).1 (sumRes (l.drop cut.toNat)).1 true) true := by
    refine Ev.step (fun k => by rw [ententelaw04_CashOrder.j3]) (ev_pos rfl order_out)
  refine ev_ite (fun c1 => ?_) (fun c1 => bad)
  by_cases c2 : (sumRes (l.drop cut.toNat)).2 = 0
  · rw [show ((sumRes (l.drop cut.toNat)).2 != 0) = false by simp [c2]]
    refine Ev.step (fun k => by rw [ententelaw04_CashOrder.j3]) (ev_neg (by decide) ?_)
    unfold sumRes at c1 c2
    have d1 : -9223372036854775808 ≤ (l.take cut.toNat).sum ∧ (l.take cut.toNat).sum ≤ 9223372036854775807 := by
      by_cases c : -9223372036854775808 ≤ (l.take cut.toNat).sum ∧ (l.take cut.toNat).sum ≤ 9223372036854775807
      · exact c
      · rw [if_neg c] at c1; exact absurd c1 (by decide)
    have d2 : -9223372036854775808 ≤ (l.drop cut.toNat).sum ∧ (l.drop cut.toNat).sum ≤ 9223372036854775807 := by
      by_cases c : -9223372036854775808 ≤ (l.drop cut.toNat).sum ∧ (l.drop cut.toNat).sum ≤ 9223372036854775807
      · exact c
      · rw [if_neg c] at c2; exact absurd c2 (by decide)
    have e1 : (sumRes (l.take cut.toNat)).1 = (l.take cut.toNat).sum := by unfold sumRes; rw [if_pos d1]
    have e2 : (sumRes (l.drop cut.toNat)).1 = (l.drop cut.toNat).sum := by unfold sumRes; rw [if_pos d2]
    rw [e1, e2]
    have e3 : sumRes [(l.take cut.toNat).sum, (l.drop cut.toNat).sum] = sumRes l := by
      unfold sumRes
      rw [hs]; simp
    refine Ev.bind (sum_ev [(l.take cut.toNat).sum, (l.drop cut.toNat).sum] ?_ (by simp)) ?_
    · intro x hm
      simp at hm
      rcases hm with rfl | rfl
      · exact d1
      · exact d2
    · rw [e3]; exact ev_pos rfl (ev_pos rfl order_out)
  · rw [show ((sumRes (l.drop cut.toNat)).2 != 0) = true by simp [c2]]
    exact bad
theorem order_loop (l : List Int) (cut : Int) (hx : ∀ x ∈ l, I64 x) (hn : l.length ≤ 5000) (h0 : 0 ≤ cut) (h1 : cut ≤ l.length) :
    ∀ i, i ≤ l.length → Ev (fun k => ententelaw04_CashOrder.l0 k l cut (l.drop i).reverse ((i : Int) - 1)) true := by
  intro i
  induction i with
  | zero =>
    intro _
    rw [List.drop_zero]
    exact order_end l cut hx (by omega) h0 h1
  | succ i ih =>
    intro hi
    refine Ev.step (fun k => by rw [ententelaw04_CashOrder.l0]) ?_
    have e : (((i + 1 : Nat) : Int) - 1) = (i : Int) := by omega
    rw [e]
    refine ev_pos (by omega) (ev_pos (by omega) (ev_pos (by omega) (ev_pos (by rw [List.length_reverse, List.length_drop]; omega) ?_)))
    have hd : (l.drop i).reverse = (l.drop (i + 1)).reverse ++ [rd l i] := by
      rw [List.drop_eq_getElem_cons (show i < l.length by omega), List.reverse_cons, rd_get l i (by omega)]
    rw [← hd, wrap64_of (by omega) (by omega)]
    exact ih (by omega)
theorem CashOrder : ententelaw04_CashOrder.Pure := by
  intro l cut h1 h2 h3 h4
  refine Ev.rounds (g := fun k => ententelaw04_CashOrder.f k l cut) ?_
  refine Ev.congr (fun k => by rw [ententelaw04_CashOrder.f]) ?_
  have out : Ev (fun k => ententelaw04_CashOrder.j0 k l cut true) true := Ev.step (fun k => by rw [ententelaw04_CashOrder.j0]) (ev_pos rfl order_out)
  refine ev_ite (fun _ => out) (fun c1 => ev_ite (fun _ => out) (fun c2 => ?_))
  by_cases c3 : cut > l.length
  · rw [show decide (cut > (l.length : Int)) = true from decide_eq_true c3]; exact out
  · rw [show decide (cut > (l.length : Int)) = false from decide_eq_false c3]
    refine Ev.step (fun k => by rw [ententelaw04_CashOrder.j0]) (ev_neg (by decide) ?_)
    rw [wrap64_of (by omega) (by omega)]
    have := order_loop l cut (fun x hx => i64_of_wf (h3 x hx)) (by omega) (by omega) (by omega) l.length (Nat.le_refl _)
    rw [List.drop_length] at this
    exact this
end Go.Proofs.Ytghpbcfkldbpjaa.Pure

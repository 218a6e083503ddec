/- The plain statement: any token has the document's value, or none. -/
import Derived.Test.YtghpbcfkldbpjabDoorLexC
import Derived.Test.YtghpbcfkldbpjabDoorPLx8
import Derived.Test.YtghpbcfkldbpjabDoorPLx9
namespace Go.Proofs.YtghpbcfkldbpjabDoor.Pure
open Go.RowKit Go.Proofs.YtghpbcfkldbpjabDoorW.PrintWords Go.Proofs.YtghpbcfkldbpjabDoor.B Go.Proofs.YtghpbcfkldbpjabDoor.PL Go.Proofs.YtghpbcfkldbpjabDoor.LA Go.Proofs.YtghpbcfkldbpjabDoor.LB Go.Proofs.YtghpbcfkldbpjabDoor.LC
theorem pow_le (i : Nat) (h : i ≤ 16) : 10 ^ i ≤ 10000000000000000 := Nat.le_trans (Nat.pow_le_pow_right (by omega) h) (by decide)
theorem val_loop (a : Int) (t : ByteArray) (c : Int) (ht : t.size ≤ 16) : ∀ (d i : Nat) (acc : Int), t.size - i = d → i ≤ t.size → allF dg t i = true → 0 ≤ acc → acc < ((10 ^ i : Nat) : Int) →
    ∃ v : Int, Ev (fun k => lexic_Value.l0 k acc (t.size : Int) (i : Int) a t c) (v, true) ∧ Ev (fun k => ententeref08_Value.l0 k acc (i : Int) a t c) (v, true)
  | 0, i, acc, hd, h, ha, h0, h1 => ⟨acc, Ev.step (fun k => by rw [lexic_Value.l0]) (ev_neg (by omega) (Ev.some rfl)), Ev.step (fun k => by rw [ententeref08_Value.l0]) (ev_neg (by omega) (Ev.some rfl))⟩
  | d + 1, i, acc, hd, h, ha, h0, h1 => by
    rw [allF_step _ _ _ (by omega), Bool.and_eq_true, dg_iff] at ha
    have hp := pow_le i (by omega)
    have hs : 10 ^ (i + 1) = 10 * 10 ^ i := by rw [Nat.pow_succ, Nat.mul_comm]
    obtain ⟨v, hv1, hv2⟩ := val_loop a t c ht d (i + 1) (10 * acc + (bt t i - 48)) (by omega) (by omega) ha.2 (by omega) (by rw [hs]; omega)
    refine ⟨v, Ev.step (fun k => by rw [lexic_Value.l0]) (ev_pos (by omega) (ev_pos (by omega) (ev_pos (by omega) ?_))), Ev.step (fun k => by rw [ententeref08_Value.l0]) (ev_pos (by omega) (ev_pos (by omega) ?_))⟩
    · rw [wrap64_of (x := 10 * acc) (by omega) (by omega), show (bt t i - 48) % 256 = bt t i - 48 by omega, wrap64_of (x := 10 * acc + (bt t i - 48)) (by omega) (by omega), wrap64_of (x := (i : Int) + 1) (by omega) (by omega)]
      exact hv1
    · rw [wrap64_of (x := 10 * acc) (by omega) (by omega), wrap64_of (x := bt t i) (by omega) (by omega), wrap64_of (x := 10 * acc + bt t i) (by omega) (by omega), wrap64_of (x := 10 * acc + bt t i - 48) (by omega) (by omega), wrap64_of (x := (i : Int) + 1) (by omega) (by omega), show 10 * acc + bt t i - 48 = 10 * acc + (bt t i - 48) by omega]
      exact hv2
theorem both (a : Int) (t : ByteArray) (c : Int) : ∃ q : Int × Bool, Ev (fun k => lexic_Value.f k a t c) q ∧ Ev (fun k => ententeref08_Value.f k a t c) q := by
  unfold lexic_Value.f ententeref08_Value.f
  by_cases h : a = 2
  · cases hn : nm t with
    | false =>
      refine ⟨(0, false), ev_pos h (ev_bind0 (number_eq t) ?_), ev_pos h (Ev.bind (num_ev t) ?_)⟩
      · rw [hn]; refine Ev.step (fun k => by rw [lexic_Value.j0]) ?_; exact ev_pos rfl (Ev.some rfl)
      · rw [hn]; refine Ev.step (fun k => by rw [ententeref08_Value.j0]) ?_; exact ev_pos rfl (Ev.some rfl)
    | true =>
      have hn' := hn
      unfold nm at hn'
      simp only [Bool.and_eq_true, decide_eq_true_eq] at hn'
      obtain ⟨v, h1, h2⟩ := val_loop a t c hn'.1.1.2 _ 0 0 rfl (Nat.zero_le _) hn'.1.2 (Int.le_refl _) (by decide)
      refine ⟨(v, true), ev_pos h (ev_bind0 (number_eq t) ?_), ev_pos h (Ev.bind (num_ev t) ?_)⟩
      · rw [hn]; refine Ev.step (fun k => by rw [lexic_Value.j0]) ?_; exact ev_neg (by decide) h1
      · rw [hn]; refine Ev.step (fun k => by rw [ententeref08_Value.j0]) ?_; exact ev_neg (by decide) h2
  · refine ⟨(0, false), ev_neg h (Ev.step (fun k => by rw [lexic_Value.j0]) ?_), ev_neg h (Ev.step (fun k => by rw [ententeref08_Value.j0]) ?_)⟩
    · exact ev_pos rfl (Ev.some rfl)
    · exact ev_pos rfl (Ev.some rfl)
theorem LexicValues (a : Int) (t : ByteArray) (c : Int) : ∃ k, ententelaw08_LexicValues.f k a t c = some true := by
  refine Ev.rounds ?_
  unfold ententelaw08_LexicValues.f
  obtain ⟨q, h1, h2⟩ := both a t c
  exact Ev.bind h1 (Ev.bind h2 (ev_pos rfl (ev_pos (by simp) (Ev.bind awake_ev (Ev.some rfl)))))
end Go.Proofs.YtghpbcfkldbpjabDoor.Pure

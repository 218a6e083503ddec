/- Products of 64-bit numbers: the printed functions of package cash and the document's answer both come to the product, or none. -/
import Derived.Test.YtghpbcfkldbpjaaCashA
import Derived.Laws.Bits64b
namespace Go.Proofs.Ytghpbcfkldbpjaa.CA
open Go.RowKit Go.Proofs.Ytghpbcfkldbpjaa.PC Go.Proofs.YtghpbcfkldbpjaaW.PrintWords Go.Proofs.Ytghpbcfkldbpjaa.B

theorem and_mask {x : Int} (h0 : 0 ≤ x) (h1 : x < 18446744073709551616) : Go.bits .and .u64 x 4294967295 = x % 4294967296 := by
  obtain ⟨n, rfl⟩ := Int.eq_ofNat_of_zero_le h0
  have e := bits_and_u64_nat n 4294967295 (by omega) (by decide)
  have m : n &&& 4294967295 = n % 4294967296 := Nat.and_two_pow_sub_one_eq_mod n 32
  rw [m] at e
  exact e.trans (by omega)
theorem prod_bound {a b : Int} (a0 : 0 ≤ a) (a1 : a ≤ 4294967295) (b0 : 0 ≤ b) (b1 : b ≤ 4294967295) : 0 ≤ a * b ∧ a * b ≤ 18446744065119617025 := by
  refine ⟨Int.mul_nonneg a0 b0, ?_⟩
  have := Int.mul_le_mul a1 b1 b0 (by omega)
  omega
theorem prod_parts (x1 x0 y1 y0 : Int) : (4294967296 * x1 + x0) * (4294967296 * y1 + y0) = 18446744073709551616 * (x1 * y1) + 4294967296 * (x1 * y0) + 4294967296 * (x0 * y1) + x0 * y0 := by grind

theorem mul64 {x y : Int} (hx : U64 x) (hy : U64 y) : bits_Mul64.f x y = some (x * y / 18446744073709551616, x * y % 18446744073709551616) := by
  obtain ⟨hx0, hx1⟩ := hx
  obtain ⟨hy0, hy1⟩ := hy
  have ex : x = 4294967296 * (x / 4294967296) + x % 4294967296 := by omega
  have ey : y = 4294967296 * (y / 4294967296) + y % 4294967296 := by omega
  have e : x * y = 18446744073709551616 * ((x / 4294967296) * (y / 4294967296)) + 4294967296 * ((x / 4294967296) * (y % 4294967296)) + 4294967296 * ((x % 4294967296) * (y / 4294967296)) + (x % 4294967296) * (y % 4294967296) := by
    rw [← prod_parts, ← ex, ← ey]
  unfold bits_Mul64.f
  rw [and_mask hx0 hx1, and_mask hy0 hy1]
  have p1 := prod_bound (a := x / 4294967296) (b := y / 4294967296) (by omega) (by omega) (by omega) (by omega)
  have p2 := prod_bound (a := x / 4294967296) (b := y % 4294967296) (by omega) (by omega) (by omega) (by omega)
  have p3 := prod_bound (a := x % 4294967296) (b := y / 4294967296) (by omega) (by omega) (by omega) (by omega)
  have p4 := prod_bound (a := x % 4294967296) (b := y % 4294967296) (by omega) (by omega) (by omega) (by omega)
  rw [e]
  generalize (x / 4294967296) * (y / 4294967296) = p at p1 ⊢
  generalize (x / 4294967296) * (y % 4294967296) = q at p2 ⊢
  generalize (x % 4294967296) * (y / 4294967296) = r at p3 ⊢
  generalize (x % 4294967296) * (y % 4294967296) = s at p4 ⊢
  clear e ex ey hx0 hx1 hy0 hy1
  rw [u64_in (x := q) (by omega) (by omega), u64_in (x := s) (by omega) (by omega), u64_in (x := q + s / 4294967296) (by omega) (by omega), u64_in (x := r) (by omega) (by omega), u64_in (x := p) (by omega) (by omega),
    and_mask (x := q + s / 4294967296) (by omega) (by omega), u64_in (x := p + (q + s / 4294967296) / 4294967296) (by omega) (by omega), u64_in (x := (q + s / 4294967296) % 4294967296 + r) (by omega) (by omega), u64_in (by omega) (by omega), u64_wrap]
  congr 2
  omega

theorem size_eq {a : Int} (h : I64 a) : cash_size.f a = some (if a < 0 then -a else a) := by
  obtain ⟨h0, h1⟩ := h
  unfold cash_size.f
  rw [u64_wrap, u64_wrap]
  split
  · congr 1; omega
  · congr 1; omega
theorem signed_ev {n : Int} (hn : U64 n) (below : Bool) : Ev (fun k => cash_signed.f k n below) (if below = true then (if n ≤ 9223372036854775808 then (-n, 0) else (0, 40)) else (if n < 9223372036854775808 then (n, 0) else (0, 40))) := by
  obtain ⟨h0, h1⟩ := hn
  cases below with
  | true =>
    rw [if_pos rfl]
    refine Ev.congr (fun k => by rw [cash_signed.f]) ?_
    refine ev_pos rfl (Ev.step (fun k => by rw [cash_signed.j0]) ?_)
    by_cases c : n ≤ 9223372036854775808
    · refine ev_pos (by simpa using c) (Ev.some ?_)
      rw [if_pos c, u64_wrap]; unfold wrap64; congr 1; omega
    · refine ev_neg (by simpa using c) (ev_pos rfl (Ev.some ?_))
      rw [if_neg c]
  | false =>
    rw [if_neg (by decide)]
    refine Ev.congr (fun k => by rw [cash_signed.f]) ?_
    refine ev_neg (by decide) (Ev.step (fun k => by rw [cash_signed.j0]) ?_)
    refine ev_neg (by decide) (ev_neg (by decide) ?_)
    by_cases c : n < 9223372036854775808
    · refine ev_pos c (Ev.some ?_)
      rw [if_pos c]; unfold wrap64; congr 1; omega
    · refine ev_neg c (Ev.some ?_)
      rw [if_neg c]

theorem abs_bound {a : Int} (h : I64 a) : 0 ≤ (if a < 0 then -a else a) ∧ (if a < 0 then -a else a) ≤ 9223372036854775808 := by
  obtain ⟨h0, h1⟩ := h
  split <;> omega
theorem times_ev {a n : Int} (ha : I64 a) (hn : I64 n) : Ev (fun k => cash_Times.f k a n) (timesRes a n) := by
  have ba := abs_bound ha
  have bn := abs_bound hn
  refine Ev.congr (fun k => by rw [cash_Times.f]) ?_
  refine ev_bind0 (size_eq ha) (ev_bind0 (size_eq hn) (ev_bind0 (mul64 ⟨ba.1, by omega⟩ ⟨bn.1, by omega⟩) ?_))
  have hz : 0 ≤ (if a < 0 then -a else a) * (if n < 0 then -n else n) := Int.mul_nonneg ba.1 bn.1
  have hs : a * n = if ((decide (a < 0)) != (decide (n < 0))) = true then -((if a < 0 then -a else a) * (if n < 0 then -n else n)) else (if a < 0 then -a else a) * (if n < 0 then -n else n) := by
    by_cases c1 : a < 0 <;> by_cases c2 : n < 0 <;> simp [c1, c2, Int.neg_mul, Int.mul_neg]
  unfold timesRes
  rw [hs]
  generalize (if a < 0 then -a else a) * (if n < 0 then -n else n) = z at hz ⊢
  generalize ((decide (a < 0)) != (decide (n < 0))) = b
  by_cases c : z / 18446744073709551616 = 0
  · refine ev_pos c ?_
    have hm : z % 18446744073709551616 = z := by omega
    dsimp only
    rw [hm]
    refine Ev.bind (signed_ev ⟨hz, by omega⟩ b) (Ev.some ?_)
    cases b with
    | true =>
      simp only [if_true]
      by_cases d : z ≤ 9223372036854775808
      · rw [if_pos d, if_pos (by omega)]
      · rw [if_neg d, if_neg (by omega)]
    | false =>
      simp only [Bool.false_eq_true, if_false]
      by_cases d : z < 9223372036854775808
      · rw [if_pos d, if_pos (by omega)]
      · rw [if_neg d, if_neg (by omega)]
  · refine ev_neg c (Ev.some ?_)
    rw [if_neg]
    cases b <;> simp <;> omega

/-- What is told by the quotient. -/
theorem quot_tells {a n : Int} (ha : I64 a) (hn : I64 n) (h0 : n ≠ 0) (hs : ¬ (a = -9223372036854775808 ∧ n = -1)) :
    wrap64 (Int.tdiv (wrap64 (a * n)) n) = a ↔ (-9223372036854775808 ≤ a * n ∧ a * n ≤ 9223372036854775807) := by
  obtain ⟨a0, a1⟩ := ha
  obtain ⟨n0, n1⟩ := hn
  constructor
  · intro h
    have hp := wrap64_range (a * n)
    obtain ⟨p0, p1⟩ := hp
    have hd := Int.mul_tdiv_add_tmod (wrap64 (a * n)) n
    have hr : -(9223372036854775808 : Int) < Int.tmod (wrap64 (a * n)) n ∧ Int.tmod (wrap64 (a * n)) n < 9223372036854775808 := by
      rcases Int.lt_or_gt_of_ne h0 with hneg | hpos
      · have e := Int.tmod_neg (wrap64 (a * n)) n
        have l1 := Int.tmod_lt_of_pos (wrap64 (a * n)) (b := -n) (by omega)
        have l2 := Int.lt_tmod_of_pos (wrap64 (a * n)) (b := -n) (by omega)
        omega
      · have l1 := Int.tmod_lt_of_pos (wrap64 (a * n)) (b := n) hpos
        have l2 := Int.lt_tmod_of_pos (wrap64 (a * n)) (b := n) hpos
        omega
    have hq : Int.tdiv (wrap64 (a * n)) n = a ∨ (wrap64 (a * n) = -9223372036854775808 ∧ n = -1) := by
      by_cases c : wrap64 (a * n) = -9223372036854775808 ∧ n = -1
      · exact .inr c
      · refine .inl ?_
        have hb : -9223372036854775808 ≤ Int.tdiv (wrap64 (a * n)) n ∧ Int.tdiv (wrap64 (a * n)) n ≤ 9223372036854775807 := by
          generalize wrap64 (a * n) = p at *
          have hab : (Int.tdiv p n).natAbs ≤ p.natAbs := Int.natAbs_tdiv_le_natAbs p n
          by_cases c2 : p = -9223372036854775808
          · have hn1 : n ≠ -1 := fun h => c ⟨c2, h⟩
            by_cases c3 : Int.tdiv p n = 9223372036854775808
            · exfalso
              rw [c3, c2] at hd
              rw [c2] at hr
              omega
            · omega
          · omega
        rw [wrap64_i hb] at h
        exact h
    rcases hq with hq | ⟨hq, hn1⟩
    · rw [hq, Int.mul_comm n a] at hd
      generalize a * n = z at *
      unfold wrap64 at *
      omega
    · rw [hq, hn1] at h
      exfalso
      apply hs
      refine ⟨?_, hn1⟩
      rw [← h]; decide +kernel
  · intro h
    rw [wrap64_of h.1 h.2, Int.mul_tdiv_cancel _ h0, wrap64_of a0 a1]

theorem ref_times_ev {a n : Int} (ha : I64 a) (hn : I64 n) : Ev (fun k => ententeref04_Times.f k a n) (timesRes a n) := by
  refine Ev.congr (fun k => by rw [ententeref04_Times.f]) ?_
  unfold timesRes
  by_cases c0 : a = 0
  · refine ev_pos c0 (Ev.step (fun k => by rw [ententeref04_Times.j0]) (ev_pos rfl (Ev.some ?_)))
    subst c0; simp
  refine ev_neg c0 (Ev.step (fun k => by rw [ententeref04_Times.j0]) ?_)
  by_cases c1 : n = 0
  · refine ev_pos (by simpa using c1) (Ev.some ?_)
    subst c1; simp
  refine ev_neg (by simpa using c1) ?_
  have step : ¬ (a = -9223372036854775808 ∧ n = -1) → Ev (fun k => if n = 0 then (none) else (if (wrap64 (Int.tdiv (wrap64 (a * n)) n)) = a then (some (wrap64 (a * n), (0 : Int))) else (some (0, 40)))) (if -9223372036854775808 ≤ a * n ∧ a * n ≤ 9223372036854775807 then (a * n, 0) else (0, 40)) := by
    intro hs
    refine ev_neg c1 ?_
    have t := quot_tells ha hn c1 hs
    by_cases c : -9223372036854775808 ≤ a * n ∧ a * n ≤ 9223372036854775807
    · refine ev_pos (t.2 c) (Ev.some ?_)
      rw [if_pos c, wrap64_of c.1 c.2]
    · refine ev_neg (fun h => c (t.1 h)) (Ev.some ?_)
      rw [if_neg c]
  refine ev_ite (fun c2 => ?_) (fun c2 => ?_)
  · refine ev_ite (fun c3 => ?_) (fun c3 => ?_)
    · refine Ev.some ?_
      subst c2 c3; decide
    · refine ev_ite (fun c4 => ?_) (fun c4 => ?_)
      · refine ev_neg (by omega) (step (by omega))
      · exact step (by omega)
  · refine ev_ite (fun c4 => ?_) (fun c4 => ?_)
    · refine ev_ite (fun c5 => ?_) (fun c5 => ?_)
      · refine Ev.some ?_
        subst c4 c5; decide
      · exact step (by omega)
    · exact step (by omega)
end Go.Proofs.Ytghpbcfkldbpjaa.CA

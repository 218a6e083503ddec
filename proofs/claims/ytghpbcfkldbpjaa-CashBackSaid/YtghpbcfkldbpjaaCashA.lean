/- Sums and products of 64-bit numbers in two words, as plain laws over the printed functions of package cash and of the document's answer. -/
import Derived.Test.YtghpbcfkldbpjaaBase
import Derived.Test.YtghpbcfkldbpjaaPCx1
import Derived.Test.YtghpbcfkldbpjaaPCx3
import Derived.Test.YtghpbcfkldbpjaaPCx4
namespace Go.Proofs.Ytghpbcfkldbpjaa.CA
open Go.RowKit Go.Proofs.Ytghpbcfkldbpjaa.PC Go.Proofs.YtghpbcfkldbpjaaW.PrintWords Go.Proofs.Ytghpbcfkldbpjaa.B

/-- The document's sum: the sum, or none. -/
def sumRes (l : List Int) : Int × Int := if -9223372036854775808 ≤ l.sum ∧ l.sum ≤ 9223372036854775807 then (l.sum, 0) else (0, 40)
def timesRes (a n : Int) : Int × Int := if -9223372036854775808 ≤ a * n ∧ a * n ≤ 9223372036854775807 then (a * n, 0) else (0, 40)

theorem sum_take_succ (xs : List Int) (i : Nat) (h : i < xs.length) : (xs.take (i + 1)).sum = (xs.take i).sum + xs[i] := by
  rw [List.take_succ_eq_append_getElem h, List.sum_append]; simp
theorem rd_get (xs : List Int) (i : Nat) (h : i < xs.length) : rd xs i = xs[i] := by
  simp [rd, List.getD, List.getElem?_eq_getElem h]

theorem wide_add {h l a : Int} (h0 : -4611686018427387904 ≤ h) (h1 : h ≤ 4611686018427387904) (hl : U64 l) (ha : I64 a) :
    ∃ h' l', cash_wide_add.f h l a = some (h', l') ∧ U64 l' ∧ h' * 18446744073709551616 + l' = h * 18446744073709551616 + l + a ∧ h - 1 ≤ h' ∧ h' ≤ h + 1 := by
  obtain ⟨l0, l1⟩ := hl
  obtain ⟨a0, a1⟩ := ha
  refine ⟨_, _, rfl, ?_⟩
  have e : IntKind.u64.wrap a = if a < 0 then a + 18446744073709551616 else a := by rw [u64_wrap]; split <;> omega
  have q : a / 9223372036854775808 = if a < 0 then -1 else 0 := by split <;> omega
  rw [e, q]
  unfold xt_add64c xt_add64s U64 wrap64
  by_cases hs : a < 0
  · simp only [if_pos hs]
    refine ⟨⟨?_, ?_⟩, ?_, ?_, ?_⟩ <;> omega
  · simp only [if_neg hs]
    refine ⟨⟨?_, ?_⟩, ?_, ?_, ?_⟩ <;> omega

theorem narrow {h l : Int} (hl : U64 l) : cash_wide_narrow.f h l = some (if -9223372036854775808 ≤ h * 18446744073709551616 + l ∧ h * 18446744073709551616 + l ≤ 9223372036854775807 then (h * 18446744073709551616 + l, 0) else (0, 40)) := by
  obtain ⟨l0, l1⟩ := hl
  unfold cash_wide_narrow.f wrap64
  by_cases hs : l < 9223372036854775808
  · by_cases hh : h = 0
    · rw [if_pos (by omega), if_pos (by omega)]; congr 2; omega
    · rw [if_neg (by omega), if_neg (by omega)]
  · by_cases hh : h = -1
    · rw [if_pos (by omega), if_pos (by omega)]; congr 2; omega
    · rw [if_neg (by omega), if_neg (by omega)]

theorem sum_loop (xs : List Int) (hx : ∀ x ∈ xs, I64 x) (hn : xs.length ≤ 140737488355328) : ∀ (d i : Nat) (h l : Int), i + d = xs.length → U64 l →
    h * 18446744073709551616 + l = (xs.take i).sum → -(i : Int) ≤ h → h ≤ i → Ev (fun k => cash_Sum.l0 k xs (xs.length : Int) i h l) (sumRes xs) := by
  intro d
  induction d with
  | zero =>
    intro i h l hi hl hs h0 h1
    refine Ev.step (fun k => by rw [cash_Sum.l0]) ?_
    refine ev_neg (by omega) ?_
    refine ev_bind0 (narrow hl) (Ev.some ?_)
    have : xs.take i = xs := List.take_of_length_le (by omega)
    rw [hs, this]; unfold sumRes; rfl
  | succ d ih =>
    intro i h l hi hl hs h0 h1
    have hlt : i < xs.length := by omega
    refine Ev.step (fun k => by rw [cash_Sum.l0]) ?_
    refine ev_pos (by omega) (ev_pos (by omega) (ev_pos (by omega) ?_))
    rw [rd_get xs i hlt]
    obtain ⟨h', l', e, hl', hs', g0, g1⟩ := wide_add (h := h) (by omega) (by omega) hl (hx _ (List.getElem_mem hlt))
    refine ev_bind0 e ?_
    have w : wrap64 ((i : Int) + 1) = ((i + 1 : Nat) : Int) := by rw [wrap64_of (by omega) (by omega)]; omega
    rw [w]
    exact ih (i + 1) h' l' (by omega) hl' (by rw [sum_take_succ xs i hlt]; omega) (by omega) (by omega)

theorem sum_ev (xs : List Int) (hx : ∀ x ∈ xs, I64 x) (hn : xs.length ≤ 140737488355328) : Ev (fun k => cash_Sum.f k xs) (sumRes xs) := by
  refine Ev.congr (fun k => by rw [cash_Sum.f]) ?_
  exact sum_loop xs hx hn xs.length 0 0 0 (by omega) ⟨by omega, by omega⟩ (by simp) (by omega) (by omega)

/-! ### the document's sum -/
theorem tmod_nonneg {a : Int} (b : Int) (h : 0 ≤ a) : Int.tmod a b = a % b := Int.tmod_eq_emod_of_nonneg h
theorem tmod_neg {a : Int} (b : Int) (h : a ≤ 0) : Int.tmod a b = -((-a) % b) := by
  rw [← Int.tmod_eq_emod_of_nonneg (a := -a) (by omega), Int.neg_tmod]; omega
theorem tdiv_nonneg {a : Int} (b : Int) (h : 0 ≤ a) : Int.tdiv a b = a / b := Int.tdiv_eq_ediv_of_nonneg h
theorem tdiv_neg {a : Int} (b : Int) (h : a ≤ 0) : Int.tdiv a b = -((-a) / b) := by
  rw [← Int.tdiv_eq_ediv_of_nonneg (a := -a) (by omega), Int.neg_tdiv]; omega

theorem part_eq {x : Int} (hx : I64 x) : Int.tmod (wrap64 (Int.tmod x 4294967296 + 4294967296)) 4294967296 = x % 4294967296 := by
  obtain ⟨x0, x1⟩ := hx
  by_cases h : 0 ≤ x
  · rw [tmod_nonneg _ h, wrap64_of (by omega) (by omega), tmod_nonneg _ (by omega)]; omega
  · rw [tmod_neg _ (show x ≤ 0 by omega), wrap64_of (by omega) (by omega), tmod_nonneg _ (by omega)]; omega
theorem high_eq {x : Int} (hx : I64 x) : wrap64 (Int.tdiv (wrap64 (x - x % 4294967296)) 4294967296) = x / 4294967296 := by
  obtain ⟨x0, x1⟩ := hx
  rw [wrap64_of (x := x - x % 4294967296) (by omega) (by omega)]
  by_cases h : 0 ≤ x
  · rw [tdiv_nonneg _ (by omega), wrap64_of (by omega) (by omega)]; omega
  · rw [tdiv_neg _ (by omega), wrap64_of (by omega) (by omega)]; omega

theorem ref_loop (xs : List Int) (hx : ∀ x ∈ xs, I64 x) (hn : xs.length ≤ 1000000) : ∀ (d i : Nat) (h l : Int), i + d = xs.length → 0 ≤ l → l < 4294967296 →
    h * 4294967296 + l = (xs.take i).sum → -(i : Int) * 2147483649 ≤ h → h ≤ (i : Int) * 2147483649 → Ev (fun k => ententeref04_Sum.l0 k xs h l i) (sumRes xs) := by
  intro d
  induction d with
  | zero =>
    intro i h l hi l0 l1 hs h0 h1
    refine Ev.step (fun k => by rw [ententeref04_Sum.l0]) ?_
    refine ev_neg (by omega) ?_
    have ht : xs.take i = xs := List.take_of_length_le (by omega)
    rw [ht] at hs
    unfold sumRes
    rw [← hs]
    by_cases c1 : h < -2147483648
    · refine ev_pos c1 (Ev.some ?_); rw [if_neg (by omega)]
    refine ev_neg c1 ?_
    by_cases c2 : h > 2147483647
    · refine ev_pos c2 (Ev.some ?_); rw [if_neg (by omega)]
    refine ev_neg c2 (Ev.some ?_)
    rw [if_pos (by omega), wrap64_of (x := h * 4294967296) (by omega) (by omega), wrap64_of (by omega) (by omega)]
  | succ d ih =>
    intro i h l hi l0 l1 hs h0 h1
    have hlt : i < xs.length := by omega
    refine Ev.step (fun k => by rw [ententeref04_Sum.l0]) ?_
    refine ev_pos (by omega) (ev_pos (by omega) ?_)
    have hxi := hx _ (List.getElem_mem hlt)
    rw [rd_get xs i hlt, part_eq hxi, high_eq hxi]
    have w : wrap64 ((i : Int) + 1) = ((i + 1 : Nat) : Int) := by rw [wrap64_of (by omega) (by omega)]; omega
    have hsum := sum_take_succ xs i hlt
    generalize xs[i] = x at hxi hsum ⊢
    obtain ⟨x0, x1⟩ := hxi
    rw [w, wrap64_of (x := l + x % 4294967296) (by omega) (by omega), tdiv_nonneg _ (by omega), tmod_nonneg _ (by omega), wrap64_of (x := (l + x % 4294967296) / 4294967296) (by omega) (by omega),
      wrap64_of (x := h + x / 4294967296) (by omega) (by omega), wrap64_of (by omega) (by omega)]
    exact ih (i + 1) _ _ (by omega) (by omega) (by omega) (by rw [hsum]; omega) (by omega) (by omega)

theorem ref_sum_ev (xs : List Int) (hx : ∀ x ∈ xs, I64 x) (hn : xs.length ≤ 1000000) : Ev (fun k => ententeref04_Sum.f k xs) (sumRes xs) := by
  refine Ev.congr (fun k => by rw [ententeref04_Sum.f]) ?_
  exact ref_loop xs hx hn xs.length 0 0 0 (by omega) (by omega) (by omega) (by simp) (by omega) (by omega)

/-! ### awake: at numbers -/
theorem awake_ev : Ev (fun k => ententelaw04_awake.f k) true := Ev.of ententelaw04_awake.mono (k := 60) (by decide +kernel)
end Go.Proofs.Ytghpbcfkldbpjaa.CA

/- Amounts as texts, as plain laws: what the printed functions of package cash and of the document's answer write and read. -/
import Derived.Test.YtghpbcfkldbpjaaCashT
import Derived.Test.YtghpbcfkldbpjaaPCx2
import Derived.Test.YtghpbcfkldbpjaaPCx3
import Derived.Test.YtghpbcfkldbpjaaPCx5
namespace Go.Proofs.Ytghpbcfkldbpjaa.CA
open Go.RowKit Go.Proofs.Ytghpbcfkldbpjaa.PC Go.Proofs.YtghpbcfkldbpjaaW.PrintWords Go.Proofs.Ytghpbcfkldbpjaa.B

/-- The decimal digits of a number, the greatest first, at least one. -/
def dg (m : Nat) : List Int := if m < 10 then [48 + (m : Int)] else dg (m / 10) ++ [48 + ((m % 10 : Nat) : Int)]
termination_by m
decreasing_by omega
/-- The decimal digits of a number, the least first, none of 0. -/
def lsd (m : Nat) : List Int := if m = 0 then [] else (48 + ((m % 10 : Nat) : Int)) :: lsd (m / 10)
termination_by m
decreasing_by omega
theorem dg_rev : ∀ m : Nat, (dg m).reverse = (48 + ((m % 10 : Nat) : Int)) :: lsd (m / 10) := by
  intro m
  induction m using Nat.strongRecOn with
  | _ m ih =>
    rw [dg]
    split
    · rename_i h
      rw [lsd, if_pos (by omega), show m % 10 = m by omega]; rfl
    · rename_i h
      have e : lsd (m / 10) = (48 + ((m / 10 % 10 : Nat) : Int)) :: lsd (m / 10 / 10) := by rw [lsd, if_neg (by omega)]
      rw [List.reverse_append, ih (m / 10) (by omega), e]; rfl
theorem dg_ne (m : Nat) : dg m ≠ [] := by
  rw [dg]; split <;> simp
theorem dg_len : ∀ (j m : Nat), m < 10 ^ (j + 1) → (dg m).length ≤ j + 1 := by
  intro j
  induction j with
  | zero => intro m h; rw [dg, if_pos (by omega)]; simp
  | succ j ih =>
    intro m h
    rw [dg]
    split
    · simp
    · rw [List.length_append]
      have := ih (m / 10) (by rw [Nat.pow_succ] at h; omega)
      simp; omega
theorem dg_digit : ∀ (m : Nat), ∀ c ∈ dg m, 48 ≤ c ∧ c ≤ 57 := by
  intro m
  induction m using Nat.strongRecOn with
  | _ m ih =>
    intro c hc
    rw [dg] at hc
    split at hc
    · simp at hc; omega
    · rw [List.mem_append] at hc
      rcases hc with hc | hc
      · exact ih (m / 10) (by omega) c hc
      · simp at hc; omega

/-- An amount as the document writes it: its letters' numbers. -/
def showL (a : Int) : List Int := (if a < 0 then [45] else []) ++ dg (a.natAbs / 100) ++ [46, 48 + ((a.natAbs / 10 % 10 : Nat) : Int), 48 + ((a.natAbs % 10 : Nat) : Int)]
def showB (a : Int) : ByteArray := strOfNums (showL a)

theorem getD_set (L : List Int) (i p : Nat) (v : Int) : (L.set i v).getD p 0 = if p = i ∧ i < L.length then v else L.getD p 0 := by
  simp only [List.getD_eq_getElem?_getD, List.getElem?_set]
  by_cases h : i = p
  · subst h
    by_cases h2 : i < L.length
    · simp [h2]
    · simp [h2]
  · rw [if_neg h, if_neg (by omega)]
theorem ext_getD {L M : List Int} (hl : L.length = M.length) (h : ∀ p, p < L.length → L.getD p 0 = M.getD p 0) : L = M := by
  apply List.ext_getElem hl
  intro p h1 h2
  have := h p h1
  simpa [List.getD_eq_getElem?_getD, List.getElem?_eq_getElem h1, List.getElem?_eq_getElem h2] using this
theorem getD_reverse (L : List Int) (p : Nat) (h : p < L.length) : L.reverse.getD p 0 = L.getD (L.length - 1 - p) 0 := by
  simp only [List.getD_eq_getElem?_getD]
  rw [List.getElem?_reverse h]

theorem rev_loop (L0 : List Int) (hn : L0.length ≤ 1000) : ∀ (d i : Nat) (L : List Int), L.length = L0.length → L0.length + 1 ≤ 2 * i + d →  (i : Int) ≤ (L0.length : Int) →
    (∀ p, p < L0.length → L.getD p 0 = if p < i ∨ L0.length ≤ p + i then L0.getD (L0.length - 1 - p) 0 else L0.getD p 0) →
    Ev (fun k => cash_Show.l1 k L (i : Int) ((L0.length : Int) - 1 - i)) (strOfNums L0.reverse) := by
  intro d
  induction d with
  | zero =>
    intro i L hl hd hi h
    refine Ev.step (fun k => by rw [cash_Show.l1]) (ev_neg (by omega) (Ev.some ?_))
    congr 1
    apply ext_getD (by rw [List.length_reverse, hl])
    intro p hp
    rw [hl] at hp
    rw [getD_reverse _ _ hp, h p hp, if_pos (by omega)]
  | succ d ih =>
    intro i L hl hd hi h
    by_cases hlt : (i : Int) < (L0.length : Int) - 1 - i
    · refine Ev.step (fun k => by rw [cash_Show.l1]) (ev_pos hlt (ev_pos (by omega) (ev_pos (by omega) (ev_pos (by omega) (ev_pos (by omega) ?_)))))
      have e1 : wrap64 ((i : Int) + 1) = ((i + 1 : Nat) : Int) := by rw [wrap64_of (by omega) (by omega)]; omega
      have e2 : wrap64 ((L0.length : Int) - 1 - i - 1) = (L0.length : Int) - 1 - ((i + 1 : Nat) : Int) := by rw [wrap64_of (by omega) (by omega)]; omega
      rw [e1, e2]
      have hj : ((L0.length : Int) - 1 - i).toNat = L0.length - 1 - i := by omega
      have hi2 : (i : Int).toNat = i := by omega
      refine ih (i + 1) _ (by simp [hl]) (by omega) (by omega) ?_
      intro p hp
      rw [hj, hi2, getD_set, getD_set]
      have g1 := h i (by omega)
      have g2 := h (L0.length - 1 - i) (by omega)
      rw [if_neg (by omega)] at g1 g2
      simp only [List.length_set, hl]
      by_cases c1 : p = L0.length - 1 - i
      · rw [if_pos (by omega), if_pos (by omega)]
        unfold rd
        rw [hi2, g1, c1]
        congr 1; omega
      · rw [if_neg (by omega)]
        by_cases c2 : p = i
        · rw [if_pos (by omega), if_pos (by omega)]
          unfold rd
          rw [hj, g2, c2]
        · rw [if_neg (by omega), h p hp]
          by_cases c3 : p < i ∨ L0.length ≤ p + i
          · rw [if_pos c3, if_pos (by omega)]
          · rw [if_neg c3, if_neg (by omega)]
    · refine Ev.step (fun k => by rw [cash_Show.l1]) (ev_neg hlt (Ev.some ?_))
      congr 1
      apply ext_getD (by rw [List.length_reverse, hl])
      intro p hp
      rw [hl] at hp
      rw [getD_reverse _ _ hp, h p hp]
      by_cases c : p < i ∨ L0.length ≤ p + i
      · rw [if_pos c]
      · rw [if_neg c]; congr 1; omega

theorem turn_ev (L : List Int) (hn : L.length ≤ 1000) (h0 : L ≠ []) : Ev (fun k => cash_Show.j2 k L) (strOfNums L.reverse) := by
  refine Ev.step (fun k => by rw [cash_Show.j2]) ?_
  have hp : 0 < L.length := List.length_pos_iff.2 h0
  have := rev_loop L hn (L.length + 1) 0 L rfl (by omega) (by omega) (fun p hp => by rw [if_neg (by omega)])
  rw [wrap64_of (by omega) (by omega)]
  simpa using this
theorem sign_ev (a : Int) (L : List Int) (hn : L.length ≤ 900) (h0 : L ≠ []) : Ev (fun k => cash_Show.j1 k a L) (strOfNums ((if a < 0 then [45] else []) ++ L.reverse)) := by
  refine Ev.step (fun k => by rw [cash_Show.j1]) ?_
  by_cases c : a < 0
  · rw [if_pos c]
    refine ev_pos c (ev_pos (by omega) ?_)
    have := turn_ev (L ++ [45]) (by simp; omega) (by simp)
    simpa using this
  · rw [if_neg c]
    refine ev_neg c ?_
    exact turn_ev L (by omega) h0

theorem digit_put (n : Nat) (h : n < 18446744073709551616) : (IntKind.u64.wrap (48 + Int.tmod (n : Int) 10)) % 256 = 48 + ((n % 10 : Nat) : Int) ∧ IntKind.u64.wrap (Int.tdiv (n : Int) 10) = ((n / 10 : Nat) : Int) := by
  rw [tmod_nonneg _ (by omega), tdiv_nonneg _ (by omega), u64_wrap, u64_wrap]
  omega
theorem digits_ev (a : Int) : ∀ (d i n : Nat) (L : List Int), i + d = 20 → 3 ≤ i → n < 10 ^ d → n < 18446744073709551616 → L.length = i + 1 →
    Ev (fun k => cash_Show.l0 k a (n : Int) L (i : Int)) (strOfNums ((if a < 0 then [45] else []) ++ (L ++ lsd n).reverse)) := by
  intro d
  induction d with
  | zero =>
    intro i n L hi h3 hn hu hL
    have : n = 0 := by simpa using hn
    subst this
    refine Ev.step (fun k => by rw [cash_Show.l0]) (ev_neg (by omega) ?_)
    rw [lsd, if_pos rfl, List.append_nil]
    exact sign_ev a L (by omega) (fun h => by simp [h] at hL)
  | succ d ih =>
    intro i n L hi h3 hn hu hL
    refine Ev.step (fun k => by rw [cash_Show.l0]) (ev_pos (by omega) (ev_neg (by omega) ?_))
    by_cases c : n = 0
    · subst c
      refine ev_pos rfl (ev_pos (by omega) ?_)
      rw [lsd, if_pos rfl, List.append_nil]
      exact sign_ev a L (by omega) (fun h => by simp [h] at hL)
    · refine ev_neg (by omega) (ev_pos (by omega) ?_)
      obtain ⟨e1, e2⟩ := digit_put n hu
      rw [e1, e2, show wrap64 ((i : Int) + 1) = ((i + 1 : Nat) : Int) by rw [wrap64_of (by omega) (by omega)]; omega]
      have := ih (i + 1) (n / 10) (L ++ [48 + ((n % 10 : Nat) : Int)]) (by omega) (by omega) (by rw [Nat.pow_succ] at hn; omega) (by omega) (by simp [hL])
      rw [lsd, if_neg c]
      simpa [List.append_assoc] using this
theorem show_ev {a : Int} (ha : I64 a) : Ev (fun k => cash_Show.f k a) (showB a) := by
  obtain ⟨h0, h1⟩ := ha
  refine Ev.congr (fun k => by rw [cash_Show.f]) ?_
  refine ev_bind0 (size_eq ⟨h0, h1⟩) ?_
  have e : (if a < 0 then -a else a) = ((a.natAbs : Nat) : Int) := by split <;> omega
  rw [e]
  have hn : a.natAbs < 18446744073709551616 := by omega
  have hp : a.natAbs / 1000 < 10 ^ 17 := by have : (10 : Nat) ^ 17 = 100000000000000000 := by decide
                                            omega
  unfold showB showL
  generalize a.natAbs = n at hn hp ⊢
  have step0 : ∀ (m : Nat) (L : List Int) (i : Int), m < 18446744073709551616 → L.length < 100 → (i = 0 ∨ i = 1) → Ev (fun k => cash_Show.l0 k a ((m / 10 : Nat) : Int) (L ++ [48 + ((m % 10 : Nat) : Int)]) (i + 1)) (strOfNums ((if a < 0 then [45] else []) ++ dg (n / 100) ++ [46, 48 + ((n / 10 % 10 : Nat) : Int), 48 + ((n % 10 : Nat) : Int)])) →
      Ev (fun k => cash_Show.l0 k a (m : Int) L i) (strOfNums ((if a < 0 then [45] else []) ++ dg (n / 100) ++ [46, 48 + ((n / 10 % 10 : Nat) : Int), 48 + ((n % 10 : Nat) : Int)])) := by
    intro m L i hm hL hi h
    refine Ev.step (fun k => by rw [cash_Show.l0]) (ev_pos (by omega) (ev_neg (by omega) ?_))
    obtain ⟨e1, e2⟩ := digit_put m hm
    rw [e1, e2, wrap64_of (by omega) (by omega)]
    refine ev_ite (fun _ => ev_neg (by omega) (ev_pos (by omega) h)) (fun _ => ev_pos (by omega) h)
  refine step0 n [] 0 hn (by simp) (.inl rfl) (step0 (n / 10) _ _ (by omega) (by simp) (.inr rfl) ?_)
  refine Ev.step (fun k => by rw [cash_Show.l0]) (ev_pos (by omega) (ev_pos (by omega) (ev_pos (by simp) (ev_bind0 rfl ?_))))
  obtain ⟨e1, e2⟩ := digit_put (n / 10 / 10) (by omega)
  rw [e1, e2]
  have main : Ev (fun k => cash_Show.l0 k a ((n / 10 / 10 / 10 : Nat) : Int) ((([] ++ [48 + ((n % 10 : Nat) : Int)]) ++ [48 + ((n / 10 % 10 : Nat) : Int)]) ++ [46] ++ [48 + ((n / 10 / 10 % 10 : Nat) : Int)]) (wrap64 (0 + 1 + 1 + 1)))
      (strOfNums ((if a < 0 then [45] else []) ++ dg (n / 100) ++ [46, 48 + ((n / 10 % 10 : Nat) : Int), 48 + ((n % 10 : Nat) : Int)])) := by
    have := digits_ev a 17 3 (n / 10 / 10 / 10) ((([] ++ [48 + ((n % 10 : Nat) : Int)]) ++ [48 + ((n / 10 % 10 : Nat) : Int)]) ++ [46] ++ [48 + ((n / 10 / 10 % 10 : Nat) : Int)]) rfl (by omega) (by have : (10 : Nat) ^ 17 = 100000000000000000 := by decide
                                                                                                                                                                                                      omega) (by omega) rfl
    have hd := dg_rev (n / 100)
    rw [show n / 100 % 10 = n / 10 / 10 % 10 by omega, show n / 100 / 10 = n / 10 / 10 / 10 by omega] at hd
    have hd2 : dg (n / 100) = ((48 + ((n / 10 / 10 % 10 : Nat) : Int)) :: lsd (n / 10 / 10 / 10)).reverse := by rw [← hd, List.reverse_reverse]
    rw [hd2]
    simpa [wrap64] using this
  refine ev_ite (fun _ => ev_neg (by omega) (ev_pos (by simp) main)) (fun _ => ev_pos (by simp) main)

/-! ### the document's -/
theorem strOf_append (xs ys : List Int) : strOfNums (xs ++ ys) = strOfNums xs ++ strOfNums ys := by
  apply str_ext
  rw [data_append, strOfNums_data, strOfNums_data, strOfNums_data, List.map_append]
theorem ten_cut : ∀ m : Fin 10, ((⟨#[48, 49, 50, 51, 52, 53, 54, 55, 56, 57]⟩ : ByteArray).extract m.val (m.val + 1)).data.toList = (strOfNums [48 + (m.val : Int)]).data.toList := by decide +kernel
theorem refDigits_ev : ∀ m : Nat, m < 9223372036854775808 → Ev (fun k => ententeref03_Digits.f k (m : Int)) (strOfNums (dg m)) := by
  intro m
  induction m using Nat.strongRecOn with
  | _ m ih =>
    intro hm
    refine Ev.step (fun k => by rw [ententeref03_Digits.f]) ?_
    rw [dg]
    by_cases c : m < 10
    · rw [if_pos c, wrap64_of (by omega) (by omega)]
      refine ev_pos (by omega) (ev_pos (by omega) (ev_pos (by omega) (ev_pos (by omega) (Ev.some ?_))))
      have := ten_cut ⟨m, c⟩
      apply str_ext
      rw [← this, show (m : Int).toNat = m by omega, show ((m : Int) + 1).toNat = m + 1 by omega]
    · rw [if_neg c]
      refine ev_neg (by omega) ?_
      rw [tdiv_nonneg _ (by omega), wrap64_of (by omega) (by omega), tmod_nonneg _ (by omega), show (m : Int) / 10 = ((m / 10 : Nat) : Int) by omega, show (m : Int) % 10 = ((m % 10 : Nat) : Int) by omega]
      have h2 := ih (m % 10) (by omega) (by omega)
      rw [dg, if_pos (by omega)] at h2
      refine Ev.bind (ih (m / 10) (by omega) (by omega)) (Ev.bind h2 ?_)
      have hl := dg_len 19 (m / 10) (by have : (10 : Nat) ^ (19 + 1) = 100000000000000000000 := by decide
                                        omega)
      refine ev_pos (by rw [strOfNums_size, strOfNums_size]; simp; omega) (Ev.some ?_)
      rw [strOf_append]
theorem refShow_ev {a : Int} (ha : I64 a) : Ev (fun k => ententeref04_Show.f k a) (showB a) := by
  obtain ⟨h0, h1⟩ := ha
  refine Ev.congr (fun k => by rw [ententeref04_Show.f]) ?_
  have d1 := fun (m : Nat) (h : m < 10) => refDigits_ev m (by omega)
  have hl : ∀ m, m < 9223372036854775808 → (strOfNums (dg m)).size ≤ 20 := fun m hm => by
    rw [strOfNums_size]
    exact dg_len 19 m (by have : (10 : Nat) ^ (19 + 1) = 100000000000000000000 := by decide
                          omega)
  have s1 : ∀ m : Nat, m < 10 → dg m = [48 + (m : Int)] := fun m h => by rw [dg, if_pos h]
  unfold showB showL
  by_cases c : 0 ≤ a
  · obtain ⟨n, rfl⟩ := Int.eq_ofNat_of_zero_le c
    rw [if_neg (by omega), Int.natAbs_natCast, List.nil_append, tdiv_nonneg _ (by omega), wrap64_of (x := (n : Int) / 100) (by omega) (by omega), tmod_nonneg _ (by omega), tmod_nonneg _ (by omega), tdiv_nonneg _ (by omega), wrap64_of (by omega) (by omega),
      show (n : Int) / 100 = ((n / 100 : Nat) : Int) by omega, show (n : Int) % 100 / 10 = ((n / 10 % 10 : Nat) : Int) by omega, show (n : Int) % 10 = ((n % 10 : Nat) : Int) by omega]
    have l1 := hl (n / 100) (by omega)
    have l2 := hl (n / 10 % 10) (by omega)
    have l3 := hl (n % 10) (by omega)
    refine ev_pos (by omega) (Ev.bind (refDigits_ev _ (by omega)) (ev_pos (by omega) (Ev.bind (refDigits_ev _ (by omega)) (ev_pos (by omega) (Ev.bind (refDigits_ev _ (by omega)) (ev_pos (by omega) (Ev.some ?_)))))))
    rw [s1 (n / 10 % 10) (by omega), s1 (n % 10) (by omega), strOf_append]
    apply str_ext
    simp [strOfNums_data]
  · obtain ⟨n, hn⟩ : ∃ n : Nat, a = -(n : Int) := ⟨a.natAbs, by omega⟩
    subst hn
    rw [if_pos (by omega), Int.natAbs_neg, Int.natAbs_natCast, tdiv_neg _ (by omega), wrap64_of (x := -(-(-(n : Int)) / 100)) (by omega) (by omega), wrap64_of (x := -(-(-(-(n : Int)) / 100))) (by omega) (by omega), tmod_neg _ (by omega), tmod_neg _ (by omega), tdiv_neg _ (by omega),
      wrap64_of (x := -(-(-(-(-(n : Int)) % 100)) / 10)) (by omega) (by omega), wrap64_of (x := -(-(-(-(-(-(n : Int)) % 100)) / 10))) (by omega) (by omega), wrap64_of (x := -(-(-(-(n : Int)) % 10))) (by omega) (by omega),
      show -(-(-(-(n : Int)) / 100)) = ((n / 100 : Nat) : Int) by omega, show -(-(-(-(-(-(n : Int)) % 100)) / 10)) = ((n / 10 % 10 : Nat) : Int) by omega, show -(-(-(-(n : Int)) % 10)) = ((n % 10 : Nat) : Int) by omega]
    have l1 := hl (n / 100) (by omega)
    have l2 := hl (n / 10 % 10) (by omega)
    have l3 := hl (n % 10) (by omega)
    refine ev_neg (by omega) (Ev.bind (refDigits_ev _ (by omega)) (ev_pos (by omega) (ev_pos (by omega) (Ev.bind (refDigits_ev _ (by omega)) (ev_pos (by omega) (Ev.bind (refDigits_ev _ (by omega)) (ev_pos (by omega) (Ev.some ?_))))))))
    rw [s1 (n / 10 % 10) (by omega), s1 (n % 10) (by omega), strOf_append, strOf_append]
    apply str_ext
    simp [strOfNums_data]
end Go.Proofs.Ytghpbcfkldbpjaa.CA

/- The document's check and writing of tokens, against the program's. -/
import Derived.Test.YtghpbcfkldbpjabDoorLexE
import Derived.Test.YtghpbcfkldbpjabDoorPLx12
import Derived.Test.YtghpbcfkldbpjabDoorPLx13
import Derived.Test.YtghpbcfkldbpjabDoorPLx14
namespace Go.Proofs.YtghpbcfkldbpjabDoor.LS
open Go.RowKit Go.Proofs.YtghpbcfkldbpjabDoorW.PrintWords Go.Proofs.YtghpbcfkldbpjabDoor.B Go.Proofs.YtghpbcfkldbpjabDoor.PL Go.Proofs.YtghpbcfkldbpjabDoor.LA Go.Proofs.YtghpbcfkldbpjabDoor.LB Go.Proofs.YtghpbcfkldbpjabDoor.LC Go.Proofs.YtghpbcfkldbpjabDoor.LD Go.Proofs.YtghpbcfkldbpjabDoor.LE
set_option linter.unusedSimpArgs false
set_option linter.unusedVariables false

/-- The bytes of the texts from the i-th on, with a blank ahead of each but the first of all. -/
def tot : List S32 → Nat → Nat
  | [], _ => 0
  | t :: l, i => t.f1.size + min i 1 + tot l (i + 1)
theorem mn_min (i : Nat) : mn (i : Int) 1 = ((min i 1 : Nat) : Int) := by unfold mn; split <;> omega
theorem ck_tot : ∀ (l : List S32) (i : Nat) (acc : Int), (∀ t ∈ l, fit t = true) → 0 ≤ acc → acc ≤ 2001 → ck l i acc = if acc + (tot l i : Int) > 2000 then 3 else 0
  | [], i, acc, h, h0, h1 => by unfold ck tot; simp
  | t :: l, i, acc, h, h0, h1 => by
    unfold ck
    rw [if_pos (h t List.mem_cons_self), mn_min, ck_tot l (i + 1) _ (fun u hu => h u (List.mem_cons_of_mem _ hu)) (by unfold mn; split <;> omega) (by unfold mn; split <;> omega)]
    rw [show tot (t :: l) i = t.f1.size + min i 1 + tot l (i + 1) from rfl]
    by_cases hc : acc + ((t.f1.size + min i 1 + tot l (i + 1) : Nat) : Int) > 2000
    · rw [if_pos hc, if_pos (by unfold mn; split <;> omega)]
    · rw [if_neg hc, if_neg (by unfold mn; split <;> omega)]
theorem ck_bad : ∀ (l : List S32) (i : Nat) (acc : Int), ¬ (∀ t ∈ l, fit t = true) → ck l i acc = 80
  | [], i, acc, h => absurd (fun t ht => by cases ht) h
  | t :: l, i, acc, h => by
    unfold ck
    by_cases hf : fit t = true
    · rw [if_pos hf]
      exact ck_bad l _ _ (fun h' => h (fun u hu => by
        rcases List.mem_cons.1 hu with rfl | hu
        · exact hf
        · exact h' u hu))
    · rw [if_neg hf]
/-! ### the document's check -/
theorem rl1 (l : List S32) (hl : l.length ≤ 1000000) (n : Nat) (hn : l.length = n + 1) (hf : ∀ t ∈ l.take n, fit t = true) : ∀ (d i acc : Nat), n - i = d → i ≤ n → acc ≤ 3000 →
    Ev (fun k => ententeref08_Check.l1 k l (l.length : Int) (acc : Int) (i : Int)) (if acc + tot ((l.take n).drop i) i > 2000 then 3 else 0)
  | 0, i, acc, hd, h, h1 => by
    rw [List.drop_of_length_le (by rw [List.length_take]; omega)]
    refine Ev.step (fun k => by rw [ententeref08_Check.l1]) ?_
    rw [wrap64_of (by omega) (by omega)]
    refine ev_neg (by omega) (Ev.step (fun k => by rw [ententeref08_Check.j4]) (ev_neg (by decide) ?_))
    unfold tot
    exact ev_ite (fun h => Ev.some (by rw [if_pos (by omega)])) (fun h => Ev.some (by rw [if_neg (by omega)]))
  | d + 1, i, acc, hd, h, h1 => by
    have hlt : i < (l.take n).length := by rw [List.length_take]; omega
    rw [List.drop_eq_getElem_cons hlt]
    have hg : (l.take n)[i] = l[i]'(by omega) := List.getElem_take
    have hfit := hf _ (List.getElem_mem hlt)
    have hz := fit_size _ hfit
    have ih := fun acc' => rl1 l hl n hn hf d (i + 1) acc' (by omega) (by omega)
    rw [hg] at hz ⊢
    refine Ev.step (fun k => by rw [ententeref08_Check.l1]) ?_
    rw [wrap64_of (by omega) (by omega)]
    refine ev_pos (by omega) (Ev.step (fun k => by rw [ententeref08_Check.j4]) ?_)
    rw [rd_get l i (by omega)]
    generalize l[i]'(by omega) = t at hz ⊢
    rw [show tot (t :: (l.take n).drop (i + 1)) i = t.f1.size + min i 1 + tot ((l.take n).drop (i + 1)) (i + 1) from rfl]
    have w1 : wrap64 ((i : Int) + 1) = ((i + 1 : Nat) : Int) := by rw [wrap64_of (by omega) (by omega)]; omega
    rw [w1]
    refine ev_ite (fun ha => ?_) (fun ha => ?_)
    · have ha' : acc ≤ 2000 := by have := of_decide_eq_true ha; omega
      refine ev_ite (fun hi => ev_pos (by omega) (ev_pos (by omega) ?_)) (fun hi => ev_pos (by omega) (ev_pos (by omega) ?_))
      · have e : wrap64 (wrap64 ((acc : Int) + 1) + (t.f1.size : Int)) = ((acc + 1 + t.f1.size : Nat) : Int) := by rw [wrap64_of (x := (acc : Int) + 1) (by omega) (by omega), wrap64_of (by omega) (by omega)]; omega
        rw [e]
        have := ih (acc + 1 + t.f1.size) (by omega)
        rw [show acc + 1 + t.f1.size + tot ((l.take n).drop (i + 1)) (i + 1) = acc + (t.f1.size + min i 1 + tot ((l.take n).drop (i + 1)) (i + 1)) by omega] at this
        exact this
      · have e : wrap64 ((acc : Int) + (t.f1.size : Int)) = ((acc + t.f1.size : Nat) : Int) := by rw [wrap64_of (by omega) (by omega)]; omega
        rw [e]
        have := ih (acc + t.f1.size) (by omega)
        rw [show acc + t.f1.size + tot ((l.take n).drop (i + 1)) (i + 1) = acc + (t.f1.size + min i 1 + tot ((l.take n).drop (i + 1)) (i + 1)) by omega] at this
        exact this
    · have ha' : ¬ ((acc : Int) ≤ 2000) := fun hh => ha (decide_eq_true hh)
      have e3 : (if acc + (t.f1.size + min i 1 + tot ((l.take n).drop (i + 1)) (i + 1)) > 2000 then (3 : Int) else 0) = 3 := if_pos (by omega)
      rw [e3]
      exact ev_pos (by omega) (Ev.some rfl)
theorem rl0 (l : List S32) (hl : l.length ≤ 1000000) (n : Nat) (hn : l.length = n + 1) (R : Int) (hgood : (∀ t ∈ l.take n, fit t = true) → Ev (fun k => ententeref08_Check.l1 k l (l.length : Int) 0 0) R) (hbad : ¬ (∀ t ∈ l.take n, fit t = true) → R = 80) :
    ∀ (d i : Nat), n - i = d → i ≤ n → (∀ t ∈ (l.take n).take i, fit t = true) → Ev (fun k => ententeref08_Check.l0 k l (l.length : Int) (i : Int)) R
  | 0, i, hd, h, hp => by
    refine Ev.step (fun k => by rw [ententeref08_Check.l0]) ?_
    rw [wrap64_of (by omega) (by omega)]
    refine ev_neg (by omega) (hgood ?_)
    rw [List.take_of_length_le (by rw [List.length_take]; omega)] at hp
    exact hp
  | d + 1, i, hd, h, hp => by
    have hlt : i < (l.take n).length := by rw [List.length_take]; omega
    have hg : (l.take n)[i] = l[i]'(by omega) := List.getElem_take
    have good : fit (l[i]'(by omega)) = true → Ev (fun k => ententeref08_Check.l0 k l (l.length : Int) (wrap64 ((i : Int) + 1))) R := by
      intro hf
      rw [wrap64_of (by omega) (by omega)]
      refine rl0 l hl n hn R hgood hbad d (i + 1) (by omega) (by omega) (fun t ht => ?_)
      rw [List.take_succ_eq_append_getElem hlt] at ht
      rcases List.mem_append.1 ht with ht | ht
      · exact hp t ht
      · rw [List.mem_singleton.1 ht, hg]; exact hf
    have bad : fit (l[i]'(by omega)) = false → R = 80 := by
      intro hf
      refine hbad (fun h' => ?_)
      have := h' _ (List.getElem_mem hlt)
      rw [hg, hf] at this
      cases this
    refine Ev.step (fun k => by rw [ententeref08_Check.l0]) ?_
    rw [wrap64_of (by omega) (by omega)]
    refine ev_pos (by omega) (ev_pos (by omega) (ev_pos (by omega) ?_))
    rw [rd_get l i (by omega)]
    generalize l[i]'(by omega) = t at good bad ⊢
    have j2 : ∀ b : Bool, b = (decide (t.f0 = 1) && wd t.f1) → Ev (fun k => ententeref08_Check.j2 k l (l.length : Int) (i : Int) t.f0 t.f1 b) R := by
      intro b hb
      have fits : fit t = (b || ((decide (t.f0 = 2) && nm t.f1) || (decide (t.f0 = 3) && sg t.f1))) := by
        rw [hb]
        unfold fit
        by_cases e1 : t.f0 = 1
        · rw [if_pos e1, decide_eq_true e1, decide_eq_false (by omega), decide_eq_false (by omega)]; simp
        rw [if_neg e1, decide_eq_false e1]
        by_cases e2 : t.f0 = 2
        · rw [if_pos e2, decide_eq_true e2, decide_eq_false (by omega)]; simp
        rw [if_neg e2, decide_eq_false e2]
        by_cases e3 : t.f0 = 3
        · rw [if_pos e3, decide_eq_true e3]; simp
        · rw [if_neg e3, decide_eq_false e3]; simp
      refine Ev.step (fun k => by rw [ententeref08_Check.j2]) (ev_ite (fun e2 => Ev.bind (num_ev _) ?_) (fun e2 => ?_))
      · rw [decide_eq_true e2, decide_eq_false (by omega)] at fits
        refine ev_ite (fun h7 => good (by rw [fits, h7]; rfl)) (fun h7 => ev_ite (fun hn => good (by rw [fits, hn]; simp)) (fun hn => ev_neg (by omega) (Ev.some (bad ?_).symm)))
        rw [Bool.not_eq_true] at h7 hn
        rw [fits, h7, hn]; rfl
      · rw [decide_eq_false e2] at fits
        refine ev_ite (fun h7 => good (by rw [fits, h7]; rfl)) (fun h7 => ?_)
        rw [Bool.not_eq_true] at h7
        refine ev_ite (fun e3 => ev_bind0 (sign_eq _) (ev_ite (fun hs => good (by rw [fits, decide_eq_true e3, hs]; simp)) (fun hs => Ev.some (bad ?_).symm))) (fun e3 => Ev.some (bad ?_).symm)
        · rw [Bool.not_eq_true] at hs
          rw [fits, h7, hs]; simp
        · rw [fits, h7, decide_eq_false e3]; rfl
    exact ev_ite (fun e1 => Ev.bind (name_ev _) (j2 _ (by rw [decide_eq_true e1, Bool.true_and]))) (fun e1 => j2 _ (by rw [decide_eq_false e1, Bool.false_and]))
theorem rcheck_nil : Ev (fun k => ententeref08_Check.f k []) 80 := by
  unfold ententeref08_Check.f
  refine ev_pos rfl (Ev.step (fun k => by rw [ententeref08_Check.j0]) ?_)
  exact ev_pos rfl (Ev.some rfl)
theorem rcheck_ev (out : List S32) (e : S32) (h : out.length ≤ 900000) : Ev (fun k => ententeref08_Check.f k (out ++ [e])) (if e.f0 = 0 ∧ e.f1.toList = [] then ck out 0 0 else 80) := by
  have hl : (out ++ [e]).length = out.length + 1 := by rw [List.length_append]; rfl
  have hw : wrap64 (((out ++ [e]).length : Int) - 1) = (out.length : Int) := by rw [wrap64_of (by omega) (by omega)]; omega
  have hr : rd_T32 (out ++ [e]) (out.length : Int) = e := by
    rw [rd_get _ _ (by omega)]; simp
  have ht : (out ++ [e]).take out.length = out := List.take_left' rfl
  unfold ententeref08_Check.f
  rw [hw, hr]
  refine ev_neg (by omega) (ev_pos (by omega) (ev_pos (by omega) (ev_ite (fun h0 => ?_) (fun h0 => ?_))))
  · refine Ev.step (fun k => by rw [ententeref08_Check.j0]) (ev_ite (fun hb => Ev.some ?_) (fun hb => ?_))
    · rw [bne_iff_ne] at hb
      rw [if_neg (fun h' => hb h'.2)]
    · have hb' : e.f1.toList = [] := by simpa using hb
      rw [if_pos ⟨h0, hb'⟩]
      refine rl0 (out ++ [e]) (by omega) out.length hl _ (fun hg => ?_) (fun hg => ?_) _ 0 rfl (Nat.zero_le _) (fun t ht' => by simp at ht')
      · have := rl1 (out ++ [e]) (by omega) out.length hl hg _ 0 0 rfl (Nat.zero_le _) (Nat.zero_le _)
        rw [ht] at hg
        rw [ck_tot out 0 0 hg (Int.le_refl _) (by omega)]
        rw [ht, List.drop_zero] at this
        have e0 : (if (0 : Int) + (tot out 0 : Int) > 2000 then (3 : Int) else 0) = if 0 + tot out 0 > 2000 then 3 else 0 := by
          by_cases hc : 0 + tot out 0 > 2000
          · rw [if_pos hc, if_pos (by omega)]
          · rw [if_neg hc, if_neg (by omega)]
        rw [e0]
        exact this
      · rw [ht] at hg
        exact ck_bad out 0 0 hg
  · rw [if_neg (fun h' => h0 h'.1)]
    refine Ev.step (fun k => by rw [ententeref08_Check.j0]) ?_
    exact ev_pos rfl (Ev.some rfl)
end Go.Proofs.YtghpbcfkldbpjabDoor.LS

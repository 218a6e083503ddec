/- What the program's check of tokens tells; which texts are blanks; where a scan's tokens stand. -/
import Derived.Test.YtghpbcfkldbpjabDoorLexD
import Derived.Test.YtghpbcfkldbpjabDoorPLx10
namespace Go.Proofs.YtghpbcfkldbpjabDoor.LE
open Go.RowKit Go.Proofs.YtghpbcfkldbpjabDoorW.PrintWords Go.Proofs.YtghpbcfkldbpjabDoor.B Go.Proofs.YtghpbcfkldbpjabDoor.PL Go.Proofs.YtghpbcfkldbpjabDoor.LA Go.Proofs.YtghpbcfkldbpjabDoor.LB Go.Proofs.YtghpbcfkldbpjabDoor.LC Go.Proofs.YtghpbcfkldbpjabDoor.LD
set_option linter.unusedSimpArgs false
set_option linter.unusedVariables false

/-! ### blanks -/
def br : List UInt8 → Bool → Option Bool
  | [], r => some r
  | c :: l, r => if c = 10 then br l false else if r = true ∨ c = 35 then br l true else if c = 32 ∨ c = 9 then br l false else none
theorem br_append (a b : List UInt8) : ∀ r, br (a ++ b) r = (br a r).bind (br b) := by
  induction a with
  | nil => intro r; rfl
  | cons c a ih =>
    intro r
    simp only [List.cons_append, br]
    split
    · exact ih _
    split
    · exact ih _
    split
    · exact ih _
    · rfl
theorem blanks_loop (t : ByteArray) (hs : t.size ≤ 2000) : ∀ (d i : Nat) (r : Bool), t.size - i = d → i ≤ t.size → Ev (fun k => ententelaw08_blanks.l0 k t r (i : Int)) (br (t.data.toList.drop i) r).isSome
  | 0, i, r, hd, h => by
    rw [List.drop_of_length_le (by rw [← size_eq_length]; omega)]
    refine Ev.step (fun k => by rw [ententelaw08_blanks.l0]) ?_
    exact ev_neg (by omega) (Ev.some rfl)
  | d + 1, i, r, hd, h => by
    have hl : i < t.data.toList.length := by rw [← size_eq_length]; omega
    have hb := bt_get t i hl
    have nxt := fun r' => blanks_loop t hs d (i + 1) r' (by omega) (by omega)
    rw [List.drop_eq_getElem_cons hl]
    generalize t.data.toList[i] = c at hb
    have cn : ∀ n : UInt8, c = n ↔ bt t i = (n.toNat : Int) := fun n => ⟨fun e => by rw [hb, e], fun e => UInt8.toNat.inj (by rw [hb] at e; omega)⟩
    have c10 : c = 10 ↔ bt t i = 10 := cn 10
    have c35 : c = 35 ↔ bt t i = 35 := cn 35
    have c32 : c = 32 ↔ bt t i = 32 := cn 32
    have c9 : c = 9 ↔ bt t i = 9 := cn 9
    have w : wrap64 ((i : Int) + 1) = ((i + 1 : Nat) : Int) := by rw [wrap64_of (by omega) (by omega)]; omega
    simp only [br, c10, c35, c32, c9]
    have j1 : ∀ r' : Bool, Ev (fun k => ententelaw08_blanks.j1 k t r' (i : Int)) (if bt t i = 10 then br (t.data.toList.drop (i + 1)) false else if r' = true then br (t.data.toList.drop (i + 1)) r' else if bt t i = 32 ∨ bt t i = 9 then br (t.data.toList.drop (i + 1)) r' else none).isSome := by
      intro r'
      refine Ev.step (fun k => by rw [ententelaw08_blanks.j1]) (ev_pos (by omega) (ev_pos (by omega) ?_))
      rw [w]
      by_cases h10 : bt t i = 10
      · rw [if_pos h10]
        exact ev_pos h10 (ev_neg (by omega) (ev_neg (by omega) (nxt false)))
      rw [if_neg h10]
      refine ev_neg h10 ?_
      by_cases hr : r' = true
      · rw [if_pos hr]; exact ev_pos hr (nxt r')
      rw [if_neg hr]
      refine ev_neg hr ?_
      by_cases h32 : bt t i = 32
      · rw [if_pos (.inl h32)]; exact ev_pos h32 (nxt r')
      refine ev_neg h32 ?_
      by_cases h9 : bt t i = 9
      · rw [if_pos (.inr h9)]; exact ev_pos h9 (nxt r')
      · rw [if_neg (by rintro (e | e); exact h32 e; exact h9 e)]; exact ev_neg h9 (Ev.some rfl)
    refine Ev.step (fun k => by rw [ententelaw08_blanks.l0]) (ev_pos (by omega) (ev_pos (by omega) (ev_ite (fun h35 => ?_) (fun h35 => ?_))))
    · have := j1 true
      rw [if_neg (by omega), if_pos rfl] at this
      rw [if_neg (by omega), if_pos (.inr h35)]
      exact this
    · have := j1 r
      by_cases h10 : bt t i = 10
      · rw [if_pos h10] at this ⊢; exact this
      rw [if_neg h10] at this ⊢
      cases r with
      | true => rw [if_pos rfl] at this; rw [if_pos (.inl rfl)]; exact this
      | false =>
        rw [if_neg (by decide)] at this
        rw [if_neg (by rintro (e | e); exact absurd e (by decide); exact h35 e)]
        exact this
theorem blanks_ev (t : ByteArray) (hs : t.size ≤ 2000) : Ev (fun k => ententelaw08_blanks.f k t) (br t.data.toList false).isSome := by
  unfold ententelaw08_blanks.f
  exact blanks_loop t hs _ 0 false rfl (Nat.zero_le _)

/-! ### the check -/
/-- May a token be, ahead of the last one? -/
def fit (t : S32) : Bool := if t.f0 = 1 then wd t.f1 else if t.f0 = 2 then nm t.f1 else if t.f0 = 3 then sg t.f1 else false
theorem fits_eq (t : S32) : lexic_fits.f t.f0 t.f1 t.f2 = some (fit t) := by
  unfold lexic_fits.f fit
  split
  · rw [word_eq]; rfl
  split
  · rw [number_eq]; rfl
  split
  · unfold sg
    by_cases h1 : t.f1.toList = [123]
    · rw [if_pos h1, decide_eq_true h1]; rfl
    · rw [if_neg h1, decide_eq_false h1, Bool.false_or]
      by_cases h2 : t.f1.toList = [125]
      · rw [if_pos h2, decide_eq_true h2]; rfl
      · rw [if_neg h2, decide_eq_false h2, Bool.false_or, show (t.f1.toList == [59]) = decide (t.f1.toList = [59]) by rw [Bool.eq_iff_iff, beq_iff_eq, decide_eq_true_eq]]
  · rfl
theorem fit_size (t : S32) (h : fit t = true) : t.f1.size ≤ 16 := by
  unfold fit at h
  split at h
  · unfold wd at h; simp only [Bool.and_eq_true, decide_eq_true_eq] at h; omega
  split at h
  · unfold nm at h; simp only [Bool.and_eq_true, decide_eq_true_eq] at h; omega
  split at h
  · rw [sg_one] at h; omega
  · cases h
/-- The check of the tokens ahead of the last one, from the i-th on. -/
def ck : List S32 → Nat → Int → Int
  | [], _, acc => if acc > 2000 then 3 else 0
  | t :: l, i, acc => if fit t = true then ck l (i + 1) (mn (acc + t.f1.size + mn i 1) 2001) else 80
theorem rd_get (l : List S32) (i : Nat) (h : i < l.length) : rd_T32 l (i : Int) = l[i] := by
  unfold rd_T32
  rw [Int.toNat_natCast, List.getD_eq_getElem?_getD, List.getElem?_eq_getElem h]
  rfl
theorem check_loop (y : List S32) (hy : y.length ≤ 1000000) : ∀ (d i : Nat) (acc : Int), y.length - i = d → i ≤ y.length → 0 ≤ acc → acc ≤ 2001 → Ev (fun k => lexic_Check.l0 k acc y (y.length : Int) (i : Int)) (ck (y.drop i) i acc)
  | 0, i, acc, hd, h, h0, h1 => by
    rw [List.drop_of_length_le (by omega)]
    refine Ev.step (fun k => by rw [lexic_Check.l0]) (ev_neg (by omega) ?_)
    unfold ck
    exact ev_ite (fun h => Ev.some (by rw [if_pos h])) (fun h => Ev.some (by rw [if_neg h]))
  | d + 1, i, acc, hd, h, h0, h1 => by
    refine Ev.step (fun k => by rw [lexic_Check.l0]) (ev_pos (by omega) (ev_pos (by omega) (ev_pos (by omega) ?_)))
    rw [rd_get y i (by omega), List.drop_eq_getElem_cons (by omega : i < y.length)]
    generalize y[i] = t
    refine ev_bind0 (fits_eq t) ?_
    unfold ck
    refine ev_ite (fun hf => ?_) (fun hf => Ev.some (by rw [if_neg hf]))
    have hz := fit_size t hf
    have m1 : 0 ≤ mn (i : Int) 1 ∧ mn (i : Int) 1 ≤ 1 := by unfold mn; split <;> omega
    rw [if_pos hf, wrap64_of (x := acc + (t.f1.size : Int)) (by omega) (by omega), wrap64_of (x := acc + (t.f1.size : Int) + mn (i : Int) 1) (by omega) (by omega), wrap64_of (x := (i : Int) + 1) (by omega) (by omega)]
    exact check_loop y hy d (i + 1) _ (by omega) (by omega) (by unfold mn; split <;> omega) (by unfold mn; split <;> omega)
theorem check_nil : Ev (fun k => lexic_Check.f k []) 80 := by
  unfold lexic_Check.f
  refine ev_pos (by rw [List.length_nil, wrap64_of (by omega) (by omega)]; omega) (Ev.step (fun k => by rw [lexic_Check.j0]) ?_)
  exact ev_pos rfl (Ev.some rfl)
theorem check_ev (out : List S32) (e : S32) (h : out.length ≤ 1000000) : Ev (fun k => lexic_Check.f k (out ++ [e])) (if e.f0 = 0 ∧ e.f1.toList = [] then ck out 0 0 else 80) := by
  have hl : (out ++ [e]).length = out.length + 1 := by rw [List.length_append]; rfl
  have hw : wrap64 (((out ++ [e]).length : Int) - 1) = (out.length : Int) := by rw [wrap64_of (by omega) (by omega)]; omega
  have hr : rd_T32 (out ++ [e]) (out.length : Int) = e := by
    rw [rd_get _ _ (by omega)]; simp
  unfold lexic_Check.f
  rw [hw, hr]
  refine ev_neg (by omega) (ev_pos (by omega) (ev_pos (by omega) (ev_ite (fun h0 => ?_) (fun h0 => ?_))))
  · refine Ev.step (fun k => by rw [lexic_Check.j0]) (ev_ite (fun hb => Ev.some ?_) (fun hb => ev_pos (by omega) (ev_pos (by omega) (ev_bind0 (a := out) (by rw [Int.toNat_natCast, List.take_left']; rfl) ?_))))
    · rw [bne_iff_ne] at hb
      rw [if_neg (fun h' => hb h'.2)]
    · have hb' : e.f1.toList = [] := by simpa using hb
      rw [if_pos ⟨h0, hb'⟩]
      exact check_loop out h _ 0 0 rfl (Nat.zero_le _) (Int.le_refl _) (by omega)
  · rw [if_neg (fun h' => h0 h'.1)]
    refine Ev.step (fun k => by rw [lexic_Check.j0]) ?_
    exact ev_pos rfl (Ev.some rfl)
theorem ck_not80 : ∀ (l : List S32) (i : Nat) (acc : Int), (∀ t ∈ l, fit t = true) → ck l i acc ≠ 80
  | [], i, acc, h => by unfold ck; split <;> omega
  | t :: l, i, acc, h => by
    unfold ck
    rw [if_pos (h t (List.mem_cons_self))]
    exact ck_not80 l _ _ (fun u hu => h u (List.mem_cons_of_mem _ hu))
theorem tok_fit {k : Int} {t : ByteArray} {p : Int} (h : Tok k t) : fit ⟨k, t, p⟩ = true := by
  unfold fit
  rcases h with ⟨rfl, h⟩ | ⟨rfl, h⟩ | ⟨rfl, h⟩
  · exact h
  · exact h
  · exact h
end Go.Proofs.YtghpbcfkldbpjabDoor.LE

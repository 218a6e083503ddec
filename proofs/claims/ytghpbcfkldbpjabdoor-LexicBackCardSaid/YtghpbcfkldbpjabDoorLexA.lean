/- What the tests of lexic say of a text, in plain words: small letters, digits, words, numbers, signs: the program's and the document's. -/
import Derived.Test.YtghpbcfkldbpjabDoorBase
import Derived.Laws.RangeString
import Derived.Laws.RangeAny
import Derived.Test.YtghpbcfkldbpjabDoorPLx3
import Derived.Test.YtghpbcfkldbpjabDoorPLx6
import Derived.Test.YtghpbcfkldbpjabDoorPLx5
namespace Go.Proofs.YtghpbcfkldbpjabDoor.LA
open Go.RowKit Go.Proofs.YtghpbcfkldbpjabDoorW.PrintWords Go.Proofs.YtghpbcfkldbpjabDoor.B Go.Proofs.YtghpbcfkldbpjabDoor.PL

set_option linter.unusedSimpArgs false
set_option linter.unusedVariables false
abbrev sm (c : Int) : Bool := lexic_word.isSmall c
abbrev dg (c : Int) : Bool := lexic_word.isDigit c
def smDg (c : Int) : Bool := sm c || dg c
theorem sm_iff (c : Int) : sm c = true ↔ 97 ≤ c ∧ c ≤ 122 := by simp [sm, lexic_word.isSmall]
theorem dg_iff (c : Int) : dg c = true ↔ 48 ≤ c ∧ c ≤ 57 := by simp [dg, lexic_word.isDigit]
theorem smDg_iff (c : Int) : smDg c = true ↔ (97 ≤ c ∧ c ≤ 122) ∨ (48 ≤ c ∧ c ≤ 57) := by rw [smDg, Bool.or_eq_true, sm_iff, dg_iff]
/-- All bytes from a place on pass a test. -/
def allF (p : Int → Bool) (t : ByteArray) (i : Nat) : Bool := (t.data.toList.drop i).all fun c => p c.toNat
theorem allF_step (p : Int → Bool) (t : ByteArray) (i : Nat) (h : i < t.size) : allF p t i = (p (bt t i) && allF p t (i + 1)) := by
  have h' : i < t.data.toList.length := by rw [← size_eq_length]; exact h
  unfold allF
  rw [List.drop_eq_getElem_cons h', List.all_cons, bt_get t i h']
theorem allF_end (p : Int → Bool) (t : ByteArray) (i : Nat) (h : t.size ≤ i) : allF p t i = true := by
  unfold allF
  rw [List.drop_of_length_le (by rw [← size_eq_length]; exact h)]
  rfl
/-- Is a text a word? -/
def wd (t : ByteArray) : Bool := decide (1 ≤ t.size) && decide (t.size ≤ 16) && sm (bt t 0) && allF smDg t 1
/-- Is a text a number? -/
def nm (t : ByteArray) : Bool := decide (1 ≤ t.size) && decide (t.size ≤ 16) && allF dg t 0 && (decide (t.size = 1) || bt t 0 != 48)

/-! ### the document's word -/
def Good (b i : Int) : Prop := ((97 ≤ b ∧ b ≤ 122) ∨ (48 ≤ b ∧ b ≤ 57)) ∧ (i = 0 → ¬ (48 ≤ b ∧ b ≤ 57))
theorem name_step {t : ByteArray} {i : Nat} {r : Bool} (hi : i < t.size) (hg : Good (bt t i) i → Ev (fun k => ententeref06_Name.l0 k t (wrap64 ((i : Int) + 1))) r) (hb : ¬ Good (bt t i) i → r = false) : Ev (fun k => ententeref06_Name.l0 k t (i : Int)) r := by
  refine Ev.step (fun k => by rw [ententeref06_Name.l0]) (ev_pos (by omega) (ev_pos (by omega) ?_))
  generalize bt t i = b at hg hb ⊢
  unfold Good at hg hb
  repeat' first
    | refine ev_ite (fun _ => ?_) (fun _ => ?_)
    | refine Ev.some (Eq.symm ?_)
  all_goals first | (exfalso; omega) | exact hg (by omega) | exact hb (by omega)
theorem name_loop (t : ByteArray) (hs : t.size ≤ 16) : ∀ (d i : Nat), t.size - i = d → 1 ≤ i → i ≤ t.size → Ev (fun k => ententeref06_Name.l0 k t (i : Int)) (allF smDg t i)
  | 0, i, hd, h1, h2 => Ev.step (fun k => by rw [ententeref06_Name.l0]) (ev_neg (by omega) (Ev.some (allF_end _ _ _ (by omega)).symm))
  | d + 1, i, hd, h1, h2 => by
    refine name_step (by omega) (fun hg => ?_) (fun hb => ?_)
    · rw [wrap64_of (by omega) (by omega), allF_step _ _ _ (by omega), (smDg_iff _).2 hg.1, Bool.true_and]
      exact name_loop t hs d (i + 1) (by omega) (by omega) (by omega)
    · rw [allF_step _ _ _ (by omega)]
      cases h : smDg (bt t i) with
      | false => rfl
      | true => exact absurd ⟨(smDg_iff _).1 h, fun h0 => by omega⟩ hb
theorem name_ev (t : ByteArray) : Ev (fun k => ententeref06_Name.f k t) (wd t) := by
  unfold ententeref06_Name.f wd
  refine ev_ite (fun h => ?_) (fun h => ?_)
  · refine Ev.step (fun k => by rw [ententeref06_Name.j0]) (ev_pos rfl (Ev.some ?_))
    rw [decide_eq_false (by omega : ¬ 1 ≤ t.size)]; rfl
  · refine Ev.step (fun k => by rw [ententeref06_Name.j0]) (ev_ite (fun hb => Ev.some ?_) (fun hb => ?_))
    · rw [decide_eq_true_eq] at hb
      rw [decide_eq_false (by omega : ¬ t.size ≤ 16)]; simp
    · rw [decide_eq_true_eq] at hb
      rw [decide_eq_true (by omega : 1 ≤ t.size), decide_eq_true (by omega : t.size ≤ 16), Bool.true_and, Bool.true_and]
      refine name_step (i := 0) (by omega) (fun hg => ?_) (fun hn => ?_)
      · have : sm (bt t 0) = true := (sm_iff _).2 (by have := hg.2 rfl; have := hg.1; simp only [Int.ofNat_zero, Int.natCast_zero] at *; omega)
        rw [this, Bool.true_and]
        rw [wrap64_of (by omega) (by omega)]
        exact name_loop t (by omega) _ (0 + 1) rfl (by omega) (by omega)
      · cases h3 : sm (bt t 0) with
        | false => rfl
        | true => rw [sm_iff] at h3; exact absurd ⟨.inl h3, fun _ => by simp only [Int.ofNat_zero, Int.natCast_zero]; omega⟩ hn

/-! ### the program's word -/
theorem word_idx (t : ByteArray) : ∀ (f pos : Nat), t.size ≤ f + pos → decide (Lib.idxFuncFrom lexic_word.no true t f pos < 0) = allF smDg t pos
  | 0, pos, h => by rw [allF_end _ _ _ (by omega)]; rfl
  | f + 1, pos, h => by
    unfold Lib.idxFuncFrom
    by_cases hp : pos < t.size
    · rw [if_pos hp, allF_step _ _ _ hp]
      have hbt : bt t pos = ((t[pos]'hp).toNat : Int) := (bt_at t pos (by simpa using hp)).symm
      by_cases ha : (t[pos]'hp).toNat < 128
      · rw [decode_ascii t pos hp ha]
        dsimp only
        have e : lexic_word.no (t[pos]'hp).toNat = !smDg (bt t pos) := by
          unfold lexic_word.no smDg
          rw [decide_eq_false (by omega), Bool.false_or, Nat.mod_eq_of_lt (by omega), hbt, Bool.not_or]
        rw [e]
        cases hc : smDg (bt t pos) with
        | true => rw [if_neg (by decide), Bool.true_and]; exact word_idx t f (pos + 1) (by omega)
        | false => rw [if_pos (by decide), Bool.false_and, decide_eq_false (by omega)]
      · obtain ⟨h1, h2⟩ := decode_high t pos hp (by omega)
        have e : lexic_word.no (Utf8.decode t pos).1 = true := by unfold lexic_word.no; rw [decide_eq_true (by omega), Bool.true_or]
        rw [if_pos e, decide_eq_false (by omega)]
        have : smDg (bt t pos) = false := by
          cases hc : smDg (bt t pos) with
          | false => rfl
          | true => rw [smDg_iff] at hc; omega
        rw [this, Bool.false_and]
    · rw [if_neg hp, allF_end _ _ _ (by omega)]; rfl
theorem nil_size (t : ByteArray) : t.toList = [] ↔ t.size = 0 := by
  rw [ByteArray.toList_eq, size_eq_length, List.length_eq_zero_iff]
theorem word_eq (t : ByteArray) : lexic_word.f t = some (wd t) := by
  unfold lexic_word.f wd
  by_cases h : t.toList = []
  · rw [if_pos h, decide_eq_false (by rw [nil_size] at h; omega)]; rfl
  · rw [if_neg h]
    rw [nil_size] at h
    rw [decide_eq_true (by omega : 1 ≤ t.size), Bool.true_and]
    by_cases h2 : t.size > 16
    · rw [if_pos h2, decide_eq_false (by omega)]; rfl
    · rw [if_neg h2, decide_eq_true (by omega : t.size ≤ 16), Bool.true_and]
      cases h3 : sm (bt t 0) with
      | false => rw [if_neg (by show ¬ sm (bt t 0) = true; rw [h3]; decide)]; rfl
      | true =>
        rw [if_pos h3, Bool.true_and]
        unfold Lib.idxFunc
        rw [word_idx t _ _ (by omega), allF_step _ _ _ (by omega), smDg, show sm (bt t (0 : Nat)) = true from h3, Bool.true_or, Bool.true_and]

/-! ### numbers -/
theorem digit_eq (c : Int) : ententeref08_digit.f c = some (dg c) := by
  unfold ententeref08_digit.f dg lexic_word.isDigit
  by_cases h : c ≥ 48
  · rw [if_pos h, decide_eq_true (show 48 ≤ c from h), Bool.true_and]
  · rw [if_neg h, decide_eq_false (show ¬ 48 ≤ c from h), Bool.false_and]
theorem small_eq (c : Int) : ententeref08_small.f c = some (sm c) := by
  unfold ententeref08_small.f sm lexic_word.isSmall
  by_cases h : c ≥ 97
  · rw [if_pos h, decide_eq_true (show 97 ≤ c from h), Bool.true_and]
  · rw [if_neg h, decide_eq_false (show ¬ 97 ≤ c from h), Bool.false_and]
theorem num_loop (t : ByteArray) (hs : t.size ≤ 16) (h0 : 1 ≤ t.size) : ∀ (d i : Nat), t.size - i = d → i ≤ t.size → Ev (fun k => ententeref08_Number.l0 k t (i : Int)) (allF dg t i && (decide (t.size = 1) || bt t 0 != 48))
  | 0, i, hd, h2 => by
    refine Ev.step (fun k => by rw [ententeref08_Number.l0]) (ev_neg (by omega) ?_)
    rw [allF_end _ _ _ (by omega), Bool.true_and]
    refine ev_ite (fun h => Ev.some ?_) (fun h => ev_pos (by omega) (Ev.some ?_))
    · rw [decide_eq_true (by omega)]; rfl
    · rw [decide_eq_false (by omega), Bool.false_or]
  | d + 1, i, hd, h2 => by
    refine Ev.step (fun k => by rw [ententeref08_Number.l0]) (ev_pos (by omega) (ev_pos (by omega) (ev_bind0 (digit_eq _) ?_)))
    rw [allF_step _ _ _ (by omega)]
    refine ev_ite (fun h => ?_) (fun h => Ev.some ?_)
    · rw [h, Bool.true_and, wrap64_of (by omega) (by omega)]
      exact num_loop t hs h0 d (i + 1) (by omega) (by omega)
    · rw [Bool.not_eq_true] at h
      rw [h]; rfl
theorem num_ev (t : ByteArray) : Ev (fun k => ententeref08_Number.f k t) (nm t) := by
  unfold ententeref08_Number.f nm
  refine ev_ite (fun h => ?_) (fun h => ?_)
  · refine Ev.step (fun k => by rw [ententeref08_Number.j0]) (ev_pos rfl (Ev.some ?_))
    rw [decide_eq_false (by omega : ¬ 1 ≤ t.size)]; rfl
  · refine Ev.step (fun k => by rw [ententeref08_Number.j0]) (ev_ite (fun hb => Ev.some ?_) (fun hb => ?_))
    · rw [decide_eq_true_eq] at hb
      rw [decide_eq_false (by omega : ¬ t.size ≤ 16)]; simp
    · rw [decide_eq_true_eq] at hb
      rw [decide_eq_true (by omega : 1 ≤ t.size), decide_eq_true (by omega : t.size ≤ 16), Bool.true_and, Bool.true_and]
      exact num_loop t (by omega) (by omega) _ 0 rfl (by omega)
theorem drop_all (cs l : List UInt8) : l.dropWhile (cs.contains ·) = [] ↔ l.all (cs.contains ·) = true := by
  induction l with
  | nil => simp
  | cons a l ih =>
    rw [List.dropWhile_cons, List.all_cons]
    cases h : cs.contains a with
    | true => rw [if_pos rfl, Bool.true_and]; exact ih
    | false => simp
theorem trim_all (l cs : List UInt8) : (Lib.trimS l cs).isEmpty = l.all (cs.contains ·) := by
  unfold Lib.trimS Lib.trimLeftS Lib.trimRightS
  cases h : l.all (cs.contains ·) with
  | true =>
    have : l.reverse.dropWhile (cs.contains ·) = [] := (drop_all cs _).2 (by rw [List.all_reverse]; exact h)
    rw [this]; rfl
  | false =>
    rw [List.isEmpty_eq_false_iff]
    intro hn
    rw [drop_all, List.all_reverse] at hn
    have hs : l.reverse.all (cs.contains ·) = false := by rw [List.all_reverse]; exact h
    cases hd : l.reverse.dropWhile (cs.contains ·) with
    | nil => rw [(drop_all cs _).1 hd] at hs; cases hs
    | cons a r =>
      have := List.head?_dropWhile_not (cs.contains ·) l.reverse
      rw [hd] at this hn
      simp only [List.head?_cons] at this
      rw [List.all_cons] at hn
      simp only [Bool.and_eq_true] at hn
      rw [this] at hn
      cases hn.1
theorem digits_has (c : UInt8) : ([48, 49, 50, 51, 52, 53, 54, 55, 56, 57] : List UInt8).contains c = dg c.toNat := by
  have h : ∀ n : Fin 256, ([48, 49, 50, 51, 52, 53, 54, 55, 56, 57] : List UInt8).contains (UInt8.ofNat n.val) = dg (UInt8.ofNat n.val).toNat := by decide +kernel
  have := h ⟨c.toNat, c.toNat_lt⟩
  simpa using this
theorem trim_dg (t : ByteArray) : (Lib.trimS t.data.toList [48, 49, 50, 51, 52, 53, 54, 55, 56, 57]).isEmpty = allF dg t 0 := by
  rw [trim_all, allF, List.drop_zero]
  congr 1
  funext c
  exact digits_has c
theorem one48 (t : ByteArray) (h1 : 1 ≤ t.size) (h : bt t 0 = 48) : t.toList = [48] ↔ t.size = 1 := by
  rw [ByteArray.toList_eq]
  have key : ∀ l : List UInt8, t.size = l.length → (∀ h : 0 < l.length, bt t 0 = (l[0].toNat : Int)) → (l = [48] ↔ t.size = 1) := by
    intro l hl hb
    rw [hl]
    cases l with
    | nil => rw [List.length_nil] at hl; omega
    | cons a l =>
      cases l with
      | nil =>
        have : a = 48 := UInt8.toNat.inj (by have := hb (by simp); simp only [List.getElem_cons_zero] at this; rw [h] at this; show a.toNat = 48; omega)
        simp [this]
      | cons b l => simp
  exact key _ (size_eq_length t) (fun h => bt_get t 0 h)
theorem number_eq (t : ByteArray) : lexic_number.f t = some (nm t) := by
  unfold lexic_number.f nm
  by_cases h : t.toList = []
  · rw [if_pos h, decide_eq_false (by rw [nil_size] at h; omega)]; rfl
  · rw [if_neg h]
    rw [nil_size] at h
    rw [decide_eq_true (by omega : 1 ≤ t.size), Bool.true_and]
    by_cases h2 : t.size > 16
    · rw [if_pos h2, decide_eq_false (by omega)]; rfl
    · rw [if_neg h2, decide_eq_true (by omega : t.size ≤ 16), Bool.true_and, trim_dg]
      by_cases h3 : bt t 0 = 48
      · rw [if_pos h3]
        have e := one48 t (by omega) h3
        have e2 : (bt t 0 != 48) = false := by rw [bne_eq_false_iff_eq]; exact h3
        by_cases h4 : t.toList = [48]
        · rw [if_pos h4, decide_eq_true (e.1 h4), Bool.true_or, Bool.and_true]
        · rw [if_neg h4, decide_eq_false (fun h5 => h4 (e.2 h5)), e2, Bool.or_false, Bool.and_false]
      · rw [if_neg h3]
        have e2 : (bt t 0 != 48) = true := by rw [bne_iff_ne]; exact h3
        rw [e2, Bool.or_true, Bool.and_true]
end Go.Proofs.YtghpbcfkldbpjabDoor.LA

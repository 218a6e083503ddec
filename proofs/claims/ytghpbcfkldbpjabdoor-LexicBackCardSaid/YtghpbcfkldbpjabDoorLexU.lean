/- A text that tokens were written as is cut into them again. -/
import Derived.Test.YtghpbcfkldbpjabDoorLexT
namespace Go.Proofs.YtghpbcfkldbpjabDoor.LU
open Go.RowKit Go.Proofs.YtghpbcfkldbpjabDoorW.PrintWords Go.Proofs.YtghpbcfkldbpjabDoor.B Go.Proofs.YtghpbcfkldbpjabDoor.PL Go.Proofs.YtghpbcfkldbpjabDoor.LA Go.Proofs.YtghpbcfkldbpjabDoor.LB Go.Proofs.YtghpbcfkldbpjabDoor.LC Go.Proofs.YtghpbcfkldbpjabDoor.LD Go.Proofs.YtghpbcfkldbpjabDoor.LE Go.Proofs.YtghpbcfkldbpjabDoor.LS Go.Proofs.YtghpbcfkldbpjabDoor.LT
set_option linter.unusedSimpArgs false
set_option linter.unusedVariables false

/-- The rest of a text from a place on. -/
def rest (s : ByteArray) (i : Nat) : List UInt8 := s.data.toList.drop i
theorem rest_len (s : ByteArray) (i : Nat) : (rest s i).length = s.size - i := by
  unfold rest; rw [List.length_drop, ← size_eq_length]
theorem rest_bt (s : ByteArray) (i j : Nat) (c : UInt8) (a b : List UInt8) (h : rest s i = a ++ c :: b) (hj : a.length = j) : bt s ((i + j : Nat) : Int) = (c.toNat : Int) := by
  have hl := congrArg List.length h
  rw [rest_len, List.length_append, List.length_cons] at hl
  have hi : i + j < s.data.toList.length := by rw [← size_eq_length]; omega
  rw [bt_get s (i + j) hi]
  congr 2
  have : (rest s i)[j]? = some c := by rw [h, List.getElem?_append_right (by omega)]; simp [hj]
  unfold rest at this
  rw [List.getElem?_drop, List.getElem?_eq_getElem hi] at this
  exact Option.some.inj this
theorem rest_tok (s t : ByteArray) (i : Nat) (b : List UInt8) (h : rest s i = t.data.toList ++ b) (j : Nat) (hj : j < t.size) : bt s ((i + j : Nat) : Int) = bt t (j : Int) := by
  have hl : j < t.data.toList.length := by rw [← size_eq_length]; exact hj
  rw [bt_get t j hl]
  refine rest_bt s i j (t.data.toList[j]) (t.data.toList.take j) (t.data.toList.drop (j + 1) ++ b) ?_ (by rw [List.length_take]; omega)
  rw [h, ← List.cons_append, ← List.append_assoc, ← List.drop_eq_getElem_cons hl, List.take_append_drop]
theorem rest_next (s : ByteArray) (i : Nat) (a b : List UInt8) (h : rest s i = a ++ b) : rest s (i + a.length) = b := by
  unfold rest at h ⊢
  rw [← List.drop_drop, h, List.drop_left]
theorem rest_ext (s t : ByteArray) (i : Nat) (b : List UInt8) (h : rest s i = t.data.toList ++ b) : s.extract i (i + t.size) = t := by
  apply str_ext
  rw [data_extract, show i + t.size - i = t.data.toList.length by rw [← size_eq_length]; omega]
  unfold rest at h
  rw [h, List.take_left']
  rfl
theorem ov_exact (p : Int → Bool) (s : ByteArray) (e : Nat) (he : e ≤ s.size) (hs : e < s.size → ¬ p (bt s (e : Int)) = true) : ∀ (d i : Nat), e - i = d → i ≤ e → (∀ j : Nat, i ≤ j → j < e → p (bt s (j : Int)) = true) → ov p s i = e
  | 0, i, hd, h1, h2 => by
    obtain rfl : i = e := by omega
    by_cases h : i < s.size
    · exact ov_stop _ _ _ h (hs h)
    · exact ov_end _ _ _ (by omega)
  | d + 1, i, hd, h1, h2 => by
    rw [ov_go _ _ _ (by omega) (h2 i (Nat.le_refl _) (by omega))]
    exact ov_exact p s e he hs d (i + 1) (by omega) (by omega) (fun j hj1 hj2 => h2 j (by omega) hj2)
theorem allF_at (p : Int → Bool) (t : ByteArray) : ∀ (d i j : Nat), t.size - i = d → allF p t i = true → i ≤ j → j < t.size → p (bt t (j : Int)) = true
  | 0, i, j, hd, h, h1, h2 => by omega
  | d + 1, i, j, hd, h, h1, h2 => by
    rw [allF_step _ _ _ (by omega), Bool.and_eq_true] at h
    by_cases e : i = j
    · rw [← e]; exact h.1
    · exact allF_at p t d (i + 1) j (by omega) h.2 (by omega) h2
theorem ov_tok (p : Int → Bool) (s t : ByteArray) (i : Nat) (b : List UInt8) (h : rest s i = t.data.toList ++ b) (hi : i ≤ s.size) (hb : b = [] ∨ ∃ c, b = 32 :: c) (hp : ∀ j : Nat, j < t.size → p (bt t (j : Int)) = true) (h32 : ¬ p 32 = true) : lexic_Scan.ovr p s (s.size - i) i = i + t.size := by
  have hl := congrArg List.length h
  rw [rest_len, List.length_append, ← size_eq_length] at hl
  refine ov_exact p s (i + t.size) (by omega) (fun he => ?_) _ i rfl (by omega) (fun j hj1 hj2 => ?_)
  · rcases hb with rfl | ⟨c, rfl⟩
    · rw [List.length_nil] at hl; omega
    · rw [rest_bt s i t.size 32 t.data.toList c h (size_eq_length t).symm]
      exact h32
  · have := rest_tok s t i b h (j - i) (by omega)
    rw [show i + (j - i) = j by omega] at this
    rw [this]
    exact hp _ (by omega)
theorem tok_step (s : ByteArray) (t : S32) (hf : fit t = true) (f i : Nat) (out : List S32) (b : List UInt8) (h : rest s i = t.f1.data.toList ++ b) (hi : i ≤ s.size) (hb : b = [] ∨ ∃ c, b = 32 :: c) :
    lexic_Scan.scn s (f + 1) i out = lexic_Scan.scn s f (i + t.f1.size) (out ++ [⟨t.f0, t.f1, i⟩]) := by
  have hl := congrArg List.length h
  rw [rest_len, List.length_append, ← size_eq_length] at hl
  have hx := rest_ext s t.f1 i b h
  have h0 : 0 < t.f1.size → bt s (i : Int) = bt t.f1 0 := fun h0 => rest_tok s t.f1 i b h 0 h0
  obtain ⟨t0, t1, t2⟩ := t
  dsimp only at h hl hx h0 ⊢
  unfold fit at hf
  dsimp only at hf
  by_cases e1 : t0 = 1
  · subst e1
    rw [if_pos rfl] at hf
    have hw := hf
    have hs1 := wd_first _ hf
    unfold wd at hf
    simp only [Bool.and_eq_true, decide_eq_true_eq] at hf
    obtain ⟨⟨⟨z1, z2⟩, z3⟩, z4⟩ := hf
    have hb0 := h0 (by omega)
    have hsm := (sm_iff _).1 z3
    have hov := ov_tok lexic_Scan.smDg s t1 i b h hi hb (fun j hj => by
      by_cases e : j = 0
      · subst e; show (_ || _) = true; rw [show lexic_word.isSmall (bt t1 ((0 : Nat) : Int)) = true from z3, Bool.true_or]
      · exact allF_at LA.smDg t1 _ 1 j rfl z4 (by omega) hj) (by decide)
    rw [lexic_Scan.scn, if_pos (by omega), hb0, if_neg (by omega), if_neg (by omega), if_neg (by omega), if_neg (by omega), if_pos z3, hov, hx, if_pos (by rw [word_eq, hw])]
  rw [if_neg e1] at hf
  by_cases e2 : t0 = 2
  · subst e2
    rw [if_pos rfl] at hf
    have hw := hf
    have hs1 := nm_first _ hf
    unfold nm at hf
    simp only [Bool.and_eq_true, decide_eq_true_eq] at hf
    obtain ⟨⟨⟨z1, z2⟩, z4⟩, z3⟩ := hf
    have hb0 := h0 (by omega)
    have hdg := (dg_iff _).1 hs1
    have hns : ¬ sm (bt t1 0) = true := by rw [sm_iff]; omega
    have hov := ov_tok lexic_word.isDigit s t1 i b h hi hb (fun j hj => allF_at LA.dg t1 _ 0 j rfl z4 (Nat.zero_le _) hj) (by decide)
    rw [lexic_Scan.scn, if_pos (by omega), hb0, if_neg (by omega), if_neg (by omega), if_neg (by omega), if_neg (by omega), if_neg hns, if_pos hs1, hov, hx, if_pos (by rw [number_eq, hw])]
  rw [if_neg e2] at hf
  by_cases e3 : t0 = 3
  · subst e3
    rw [if_pos rfl] at hf
    obtain ⟨z1, z2⟩ := (sg_one _).1 hf
    have hb0 := h0 (by omega)
    have hns : ¬ sm (bt t1 0) = true := by rw [sm_iff]; omega
    have hnd : ¬ dg (bt t1 0) = true := by rw [dg_iff]; omega
    rw [z1] at hx
    rw [z1, lexic_Scan.scn, if_pos (by omega), hb0, if_neg (by omega), if_neg (by omega), if_neg (by omega), if_neg (by omega), if_neg hns, if_neg hnd, hx]
    rcases z2 with z2 | z2 | z2
    · rw [if_pos z2]
    · rw [if_neg (by omega), if_pos z2]
    · rw [if_neg (by omega), if_neg (by omega), if_pos z2]
  · rw [if_neg e3] at hf; cases hf
theorem jb_next (l : List S32) (i : Nat) (h : 0 < i) : jb l i = [] ∨ ∃ c, jb l i = 32 :: c := by
  cases l with
  | nil => exact .inl rfl
  | cons t l => exact .inr ⟨t.f1.data.toList ++ jb l (i + 1), by rw [show jb (t :: l) i = (if 0 < i then [32] else []) ++ (t.f1.data.toList ++ jb l (i + 1)) from rfl, if_pos h]; rfl⟩
/-- Kind and text. -/
def kt (t : S32) : Int × ByteArray := (t.f0, t.f1)
theorem back_scan (s : ByteArray) : ∀ (l : List S32) (k f i : Nat) (acc : List S32), (∀ t ∈ l, fit t = true) → rest s i = jb l k → i ≤ s.size → s.size < f + i → ∃ l' : List S32, lexic_Scan.scn s f i acc = (-1, acc ++ l') ∧ l'.map kt = l.map kt ++ [(0, (⟨#[]⟩ : ByteArray))]
  | [], k, 0, i, acc, hf, h, hi, hfi => by omega
  | [], k, f + 1, i, acc, hf, h, hi, hfi => by
    have hl := congrArg List.length h
    rw [rest_len] at hl
    have hl' : s.size - i = 0 := hl
    refine ⟨[⟨0, s.extract i i, i⟩], ?_, ?_⟩
    · rw [lexic_Scan.scn, if_neg (by omega)]
    · rw [ext_same]; rfl
  | t :: l, k, f, i, acc, hf, h, hi, hfi => by
    have hft := hf t List.mem_cons_self
    have hz : 1 ≤ t.f1.size := by
      unfold fit at hft
      split at hft
      · unfold wd at hft; simp only [Bool.and_eq_true, decide_eq_true_eq] at hft; omega
      split at hft
      · unfold nm at hft; simp only [Bool.and_eq_true, decide_eq_true_eq] at hft; omega
      split at hft
      · rw [sg_one] at hft; omega
      · cases hft
    have go : ∀ (f i : Nat), rest s i = t.f1.data.toList ++ jb l (k + 1) → i ≤ s.size → s.size < f + i → ∃ l' : List S32, lexic_Scan.scn s f i acc = (-1, acc ++ l') ∧ l'.map kt = (t :: l).map kt ++ [(0, (⟨#[]⟩ : ByteArray))] := by
      intro f i h hi hfi
      have hl := congrArg List.length h
      rw [rest_len, List.length_append, ← size_eq_length] at hl
      obtain ⟨f, rfl⟩ : ∃ g, f = g + 1 := ⟨f - 1, by omega⟩
      have hn := rest_next s i _ _ h
      rw [← size_eq_length] at hn
      obtain ⟨l', h1, h2⟩ := back_scan s l (k + 1) f (i + t.f1.size) (acc ++ [⟨t.f0, t.f1, i⟩]) (fun u hu => hf u (List.mem_cons_of_mem _ hu)) hn (by omega) (by omega)
      refine ⟨⟨t.f0, t.f1, i⟩ :: l', ?_, ?_⟩
      · rw [tok_step s t hft f i acc _ h hi (jb_next l (k + 1) (by omega)), h1, List.append_assoc]; rfl
      · rw [List.map_cons, h2]; rfl
    unfold jb at h
    by_cases hk : 0 < k
    · rw [if_pos hk] at h
      have hl := congrArg List.length h
      rw [rest_len, List.length_append, List.length_append, ← size_eq_length] at hl
      simp only [List.length_cons, List.length_nil] at hl
      have hbt := rest_bt s i 0 32 [] _ h rfl
      have hbt' : bt s (i : Int) = 32 := hbt
      have hn := rest_next s i [32] _ h
      obtain ⟨f, rfl⟩ : ∃ g, f = g + 1 := ⟨f - 1, by omega⟩
      obtain ⟨l', h1, h2⟩ := go f (i + 1) hn (by omega) (by omega)
      refine ⟨l', ?_, h2⟩
      rw [lexic_Scan.scn, if_pos (by omega), if_pos hbt']
      exact h1
    · rw [if_neg hk, List.nil_append] at h
      exact go f i h hi hfi
theorem back_sc (l : List S32) (hf : ∀ t ∈ l, fit t = true) (ht : tot l 0 ≤ 2000) : ∃ l' : List S32, sc (txt l) = (l', 0, 0) ∧ l'.map kt = l.map kt ++ [(0, (⟨#[]⟩ : ByteArray))] := by
  have hz : (txt l).size = tot l 0 := by rw [size_eq_length, txt_bytes, jb_len]
  obtain ⟨l', h1, h2⟩ := back_scan (txt l) l 0 ((txt l).size + 1) 0 [] hf (by unfold rest; rw [List.drop_zero, txt_bytes]) (Nat.zero_le _) (by omega)
  refine ⟨l', ?_, h2⟩
  unfold sc res
  rw [if_neg (by omega), h1, if_pos (show (-1 : Int) < 0 by decide)]
  rfl
end Go.Proofs.YtghpbcfkldbpjabDoor.LU

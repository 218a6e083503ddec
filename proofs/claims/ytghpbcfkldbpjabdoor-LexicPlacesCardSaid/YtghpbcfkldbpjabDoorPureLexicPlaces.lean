/- The plain statement: at each token's place its text stands; between tokens, and at both ends, blanks alone. -/
import Derived.Test.YtghpbcfkldbpjabDoorLexE
import Derived.Test.YtghpbcfkldbpjabDoorPLx11
namespace Go.Proofs.YtghpbcfkldbpjabDoor.Pure
open Go.RowKit Go.Proofs.YtghpbcfkldbpjabDoorW.PrintWords Go.Proofs.YtghpbcfkldbpjabDoor.B Go.Proofs.YtghpbcfkldbpjabDoor.PL Go.Proofs.YtghpbcfkldbpjabDoor.LA Go.Proofs.YtghpbcfkldbpjabDoor.LB Go.Proofs.YtghpbcfkldbpjabDoor.LC Go.Proofs.YtghpbcfkldbpjabDoor.LD Go.Proofs.YtghpbcfkldbpjabDoor.LE
set_option linter.unusedSimpArgs false
set_option linter.unusedVariables false
/-- Tokens that stand in a text one behind the other, from a to e, with blanks ahead of each. -/
def CT (s : ByteArray) : Nat → List S32 → Nat → Prop
  | a, [], e => a = e
  | a, t :: l, e => ∃ p : Nat, t.f2 = (p : Int) ∧ a ≤ p ∧ p + t.f1.size ≤ s.size ∧ s.extract p (p + t.f1.size) = t.f1 ∧ (br (s.extract a p).data.toList false).isSome = true ∧ CT s (p + t.f1.size) l e
theorem CT_snoc (s : ByteArray) (t : S32) (p : Nat) (h2 : t.f2 = (p : Int)) (h4 : p + t.f1.size ≤ s.size) (h5 : s.extract p (p + t.f1.size) = t.f1) : ∀ (l : List S32) (a e : Nat), CT s a l e → e ≤ p → (br (s.extract e p).data.toList false).isSome = true → CT s a (l ++ [t]) (p + t.f1.size)
  | [], a, e, h, h3, h6 => by
    have e1 : a = e := h
    subst e1
    exact ⟨p, h2, h3, h4, h5, h6, rfl⟩
  | u :: l, a, e, h, h3, h6 => by
    obtain ⟨q, g1, g2, g3, g4, g5, g6⟩ := h
    exact ⟨q, g1, g2, g3, g4, g5, CT_snoc s t p h2 h4 h5 l _ e g6 h3 h6⟩
theorem CT_le (s : ByteArray) : ∀ (l : List S32) (a e : Nat), CT s a l e → a ≤ s.size → e ≤ s.size
  | [], a, e, h, h1 => by have e1 : a = e := h; omega
  | u :: l, a, e, h, h1 => by
    obtain ⟨q, g1, g2, g3, g4, g5, g6⟩ := h
    exact CT_le s l _ e g6 g3
/-- Between e and i a text has blanks alone, and a remark is open only where the line ends. -/
def St (s : ByteArray) (e i : Nat) : Prop := e ≤ i ∧ ∃ r, br (s.extract e i).data.toList false = some r ∧ (r = true → i < s.size → bt s i = 10)
theorem ext_snoc (s : ByteArray) (e i j : Nat) (h1 : e ≤ i) (h2 : i ≤ j) (h3 : j ≤ s.size) : (s.extract e j).data.toList = (s.extract e i).data.toList ++ (s.extract i j).data.toList := by
  simp only [data_extract]
  have hi : i = e + (i - e) := by omega
  have hj : j - e = (i - e) + (j - i) := by omega
  rw [hj, List.take_add]
  congr 2
  rw [List.drop_drop]
  congr 1
  omega
theorem ext_cons (s : ByteArray) (i j : Nat) (h1 : i < j) (h3 : j ≤ s.size) : ∃ c : UInt8, (c.toNat : Int) = bt s i ∧ (s.extract i j).data.toList = c :: (s.extract (i + 1) j).data.toList := by
  have hl : i < s.data.toList.length := by rw [← size_eq_length]; omega
  refine ⟨s.data.toList[i], (bt_get s i hl).symm, ?_⟩
  simp only [data_extract]
  rw [List.drop_eq_getElem_cons hl, show j - i = (j - (i + 1)) + 1 by omega, List.take_succ_cons]
theorem St_self (s : ByteArray) (i : Nat) : St s i i := ⟨Nat.le_refl _, false, by rw [ext_same]; rfl, fun h => by cases h⟩
theorem u8_of {c : UInt8} {x : Int} (n : UInt8) (h : (c.toNat : Int) = x) : c = n ↔ x = (n.toNat : Int) := ⟨fun e => by rw [← h, e], fun e => UInt8.toNat.inj (by omega)⟩
theorem St_blank (s : ByteArray) (e i : Nat) (h : St s e i) (hi : i < s.size) (hb : bt s i = 32 ∨ bt s i = 9 ∨ bt s i = 10) : St s e (i + 1) := by
  obtain ⟨h1, r, h2, h3⟩ := h
  obtain ⟨c, hc, hx⟩ := ext_cons s i (i + 1) (by omega) (by omega)
  have e10 : c = 10 ↔ bt s i = 10 := u8_of 10 hc
  have e35 : c = 35 ↔ bt s i = 35 := u8_of 35 hc
  have e32 : c = 32 ↔ bt s i = 32 := u8_of 32 hc
  have e9 : c = 9 ↔ bt s i = 9 := u8_of 9 hc
  refine ⟨by omega, false, ?_, fun h => by cases h⟩
  rw [ext_snoc s e i (i + 1) h1 (by omega) (by omega), br_append, h2, hx, ext_same]
  show br (c :: []) r = some false
  simp only [br, e10, e35, e32, e9]
  by_cases h10 : bt s i = 10
  · rw [if_pos h10]
  · rw [if_neg h10, if_neg (by rintro (hr | h35); exact h10 (h3 hr hi); omega), if_pos (by omega)]
theorem br_open (s : ByteArray) (hs : s.size ≤ 2000) : ∀ (d i j : Nat), j - i = d → i ≤ j → j ≤ s.size → (∀ n, i ≤ n → n < j → bt s n ≠ 10) → br (s.extract i j).data.toList true = some true
  | 0, i, j, hd, h1, h2, h => by
    obtain rfl : i = j := by omega
    rw [ext_same]; rfl
  | d + 1, i, j, hd, h1, h2, h => by
    obtain ⟨c, hc, hx⟩ := ext_cons s i j (by omega) h2
    have e10 : c = 10 ↔ bt s i = 10 := u8_of 10 hc
    rw [hx]
    simp only [br, e10]
    rw [if_neg (h i (Nat.le_refl _) (by omega)), if_pos (by simp)]
    exact br_open s hs d (i + 1) j (by omega) (by omega) h2 (fun n hn1 hn2 => h n (by omega) hn2)
theorem ov_at (p : Int → Bool) (s : ByteArray) : ∀ (d i : Nat), s.size - i = d → ov p s i < s.size → ¬ p (bt s (ov p s i)) = true
  | 0, i, hd, h => by rw [ov_end _ _ _ (by omega)] at h; omega
  | d + 1, i, hd, h => by
    by_cases hp : p (bt s i) = true
    · rw [ov_go _ _ _ (by omega) hp] at h ⊢
      exact ov_at p s d (i + 1) (by omega) h
    · rw [ov_stop _ _ _ (by omega) hp]; exact hp
theorem St_note (s : ByteArray) (hs : s.size ≤ 2000) (e i : Nat) (h : St s e i) (hi : i < s.size) (hb : bt s i = 35) : St s e (ov lexic_Scan.notNl s i) := by
  obtain ⟨h1, r, h2, h3⟩ := h
  have hlt := ov_lt lexic_Scan.notNl s i hi (by rw [hb]; decide)
  have hle := ov_size lexic_Scan.notNl s i (by omega)
  have hall : ∀ n, i + 1 ≤ n → n < ov lexic_Scan.notNl s i → bt s n ≠ 10 := by
    intro n hn1 hn2
    have := ov_all lexic_Scan.notNl s _ i n rfl (by omega) hn2
    simpa [lexic_Scan.notNl] using this
  have hat : ov lexic_Scan.notNl s i < s.size → bt s (ov lexic_Scan.notNl s i) = 10 := by
    intro hl
    have := ov_at lexic_Scan.notNl s _ i rfl hl
    simpa [lexic_Scan.notNl] using this
  generalize ov lexic_Scan.notNl s i = j at hlt hle hall hat
  obtain ⟨c, hc, hx⟩ := ext_cons s i j hlt hle
  have e10 : c = 10 ↔ bt s i = 10 := u8_of 10 hc
  have e35 : c = 35 ↔ bt s i = 35 := u8_of 35 hc
  refine ⟨by omega, true, ?_, fun _ hl => hat hl⟩
  rw [ext_snoc s e i j h1 (by omega) hle, br_append, h2, hx]
  show br (c :: _) r = some true
  simp only [br, e10, e35]
  rw [if_neg (by omega), if_pos (.inr hb)]
  exact br_open s hs _ (i + 1) j rfl (by omega) hle hall
/-- What stands behind a scan that came to the end. -/
def Fine (s : ByteArray) (q : Int × List S32) : Prop := (q.1 < 0 → CT s 0 q.2 s.size ∧ ∃ out : List S32, q.2 = out ++ [⟨0, ⟨#[]⟩, s.size⟩] ∧ out.length ≤ 2000 ∧ ∀ t ∈ out, fit t = true) ∧ q.1 < s.size
theorem fine (s : ByteArray) (hs : s.size ≤ 2000) (hz : (lexic_Scan.scn s (s.size + 1) 0 []).1 < 0 ∨ 0 < s.size) : Fine s (lexic_Scan.scn s (s.size + 1) 0 []) := by
  refine scn_ind s (fun i out => (∃ e, CT s 0 out e ∧ St s e i) ∧ out.length ≤ i ∧ i ≤ s.size ∧ ∀ t ∈ out, fit t = true) (Fine s) ?_ ?_ ?_ ?_ ?_ _ 0 [] (Nat.zero_le _) (by omega) ⟨⟨0, rfl, St_self s 0⟩, Nat.le_refl _, Nat.zero_le _, fun t ht => by cases ht⟩
  · rintro i out hi ⟨⟨e, h1, h2⟩, h3, h4, h5⟩ hb
    exact ⟨⟨e, h1, St_blank s e i h2 hi hb⟩, by omega, by omega, h5⟩
  · rintro i out hi ⟨⟨e, h1, h2⟩, h3, h4, h5⟩ hb
    exact ⟨⟨e, h1, St_note s hs e i h2 hi hb⟩, Nat.le_trans h3 (ov_le _ _ _), ov_size _ _ _ h4, h5⟩
  · rintro i out j k hij hj ⟨⟨e, h1, h2⟩, h3, h4, h5⟩ ht
    have hz : (s.extract i j).size = j - i := ext_size s i j hj
    have he : i + (s.extract i j).size = j := by omega
    have := CT_snoc s ⟨k, s.extract i j, i⟩ i rfl (by show i + (s.extract i j).size ≤ s.size; omega) (by show s.extract i (i + (s.extract i j).size) = s.extract i j; rw [he]) out 0 e h1 h2.1 (by obtain ⟨_, r, h6, _⟩ := h2; rw [h6]; rfl)
    refine ⟨⟨j, ?_, St_self s j⟩, by rw [List.length_append]; simp only [List.length_cons, List.length_nil]; omega, hj, fun t hm => ?_⟩
    · have e2 : i + (⟨k, s.extract i j, i⟩ : S32).f1.size = j := he
      rw [e2] at this
      exact this
    · rcases List.mem_append.1 hm with hm | hm
      · exact h5 t hm
      · obtain rfl := List.mem_singleton.1 hm
        exact tok_fit ht
  · rintro out ⟨⟨e, h1, h2⟩, h3, h4, h5⟩
    refine ⟨fun _ => ⟨?_, out, rfl, by omega, h5⟩, by show (-1 : Int) < _; omega⟩
    have := CT_snoc s ⟨0, ⟨#[]⟩, s.size⟩ s.size rfl (by show s.size + 0 ≤ s.size; omega) (by show s.extract s.size (s.size + 0) = _; rw [Nat.add_zero, ext_same]) out 0 e h1 h2.1 (by obtain ⟨_, r, h6, _⟩ := h2; rw [h6]; rfl)
    exact this
  · rintro i out hi ⟨⟨e, h1, h2⟩, h3, h4, h5⟩
    exact ⟨fun h => by have h' : (i : Int) < 0 := h; omega, by show (i : Int) < s.size; omega⟩
theorem places_loop (s : ByteArray) (hs : s.size ≤ 2000) (full : List S32) (hf : full.length ≤ 100000) (hc : ∃ c, c ≠ 80 ∧ Ev (fun k => lexic_Check.f k full) c) : ∀ (d i a : Nat), full.length - i = d → i ≤ full.length → CT s a (full.drop i) s.size → a ≤ s.size → Ev (fun k => ententelaw08_LexicPlaces.l0 k s full (a : Int) (i : Int)) true
  | 0, i, a, hd, h, hct, ha => by
    rw [List.drop_of_length_le (by omega)] at hct
    have e : a = s.size := hct
    obtain ⟨c, hc0, hc1⟩ := hc
    refine Ev.step (fun k => by rw [ententelaw08_LexicPlaces.l0]) (ev_neg (by omega) (ev_pos (by omega) (Ev.bind hc1 (ev_neg hc0 (Ev.bind awake_ev (Ev.some rfl))))))
  | d + 1, i, a, hd, h, hct, ha => by
    rw [List.drop_eq_getElem_cons (by omega : i < full.length)] at hct
    refine Ev.step (fun k => by rw [ententelaw08_LexicPlaces.l0]) (ev_pos (by omega) (ev_pos (by omega) ?_))
    rw [rd_get full i (by omega)]
    generalize full[i] = t at hct
    obtain ⟨p, h1, h2, h3, h4, h5, h6⟩ := hct
    obtain ⟨k0, t1, t2⟩ := t
    have e2 : t2 = (p : Int) := h1
    subst e2
    dsimp only at h3 h4 h5 h6 ⊢
    have hw : wrap64 ((p : Int) + (t1.size : Int)) = ((p + t1.size : Nat) : Int) := by rw [wrap64_of (by omega) (by omega)]; omega
    rw [hw, wrap64_of (x := (s.size : Int) - (p : Int)) (by omega) (by omega)]
    refine ev_neg (by omega) (ev_neg (by omega) (ev_neg (by omega) (ev_pos (by omega) (ev_pos (by omega) (ev_pos (by omega) (ev_pos ?_ (ev_pos (by omega) (ev_pos (by omega) (ev_pos (by omega) ?_)))))))))
    · rw [Int.toNat_natCast, Int.toNat_natCast, h4]
    · rw [Int.toNat_natCast, Int.toNat_natCast]
      have hb := blanks_ev (s.extract a p) (by rw [ext_size _ _ _ (by omega)]; omega)
      rw [h5] at hb
      refine Ev.bind hb (Ev.step (fun k => by rw [ententelaw08_LexicPlaces.j1]) (ev_neg (by decide) ?_))
      rw [hw, wrap64_of (x := (i : Int) + 1) (by omega) (by omega)]
      exact places_loop s hs full hf hc d (i + 1) (p + t1.size) (by omega) (by omega) h6 h3
theorem LexicPlaces : ententelaw08_LexicPlaces.Pure := by
  intro a0 _
  refine Ev.rounds ?_
  unfold ententelaw08_LexicPlaces.f
  refine ev_bind0 (scan_eq a0) ?_
  unfold sc
  by_cases h : a0.size > 2000
  · rw [if_pos h]
    exact ev_neg (by show ¬ (3 : Int) = 0; omega) (ev_pos rfl (ev_neg (by show ¬ (3 : Int) = 80; omega) (Ev.bind awake_ev (Ev.some rfl))))
  · rw [if_neg h]
    have hl := scn_len a0 (a0.size + 1) 0 [] (Nat.zero_le _) (Nat.le_refl _)
    have hz : (lexic_Scan.scn a0 (a0.size + 1) 0 []).1 < 0 ∨ 0 < a0.size := by
      by_cases h0 : 0 < a0.size
      · exact .inr h0
      · left
        rw [lexic_Scan.scn, if_neg h0]
        show (-1 : Int) < 0
        omega
    have hfine := fine a0 (by omega) hz
    generalize lexic_Scan.scn a0 (a0.size + 1) 0 [] = q at hl hfine
    obtain ⟨r, l⟩ := q
    obtain ⟨f1, f2⟩ := hfine
    unfold res
    by_cases hneg : r < 0
    · rw [if_pos hneg]
      refine ev_pos rfl ?_
      obtain ⟨hct, out, ho, hol, hfit⟩ := f1 hneg
      have hl' : l.length ≤ a0.size + 1 := hl
      refine places_loop a0 (by omega) l (by omega) ⟨ck out 0 0, ck_not80 out 0 0 hfit, ?_⟩ _ 0 0 rfl (Nat.zero_le _) hct (Nat.zero_le _)
      · have ho' : l = out ++ [⟨0, ⟨#[]⟩, a0.size⟩] := ho
        rw [ho']
        have := check_ev out ⟨0, ⟨#[]⟩, a0.size⟩ (by omega)
        rw [if_pos ⟨rfl, by rw [ByteArray.toList_eq]⟩] at this
        exact this
    · rw [if_neg hneg]
      exact ev_neg (by show ¬ (80 : Int) = 0; omega) (ev_pos rfl (ev_pos rfl (ev_pos (by show r ≥ 0; omega) (ev_pos f2 (Ev.bind awake_ev (Ev.some rfl))))))
end Go.Proofs.YtghpbcfkldbpjabDoor.Pure

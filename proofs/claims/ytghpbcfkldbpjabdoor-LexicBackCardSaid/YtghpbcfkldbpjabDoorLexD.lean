/- What a scan keeps, step by step; a scan behind other text. -/
import Derived.Test.YtghpbcfkldbpjabDoorLexC
namespace Go.Proofs.YtghpbcfkldbpjabDoor.LD
open Go.RowKit Go.Proofs.YtghpbcfkldbpjabDoorW.PrintWords Go.Proofs.YtghpbcfkldbpjabDoor.B Go.Proofs.YtghpbcfkldbpjabDoor.PL Go.Proofs.YtghpbcfkldbpjabDoor.LA Go.Proofs.YtghpbcfkldbpjabDoor.LB Go.Proofs.YtghpbcfkldbpjabDoor.LC
set_option linter.unusedSimpArgs false
set_option linter.unusedVariables false

/-- May a token of that kind have that text? -/
def Tok (k : Int) (t : ByteArray) : Prop := (k = 1 ∧ wd t = true) ∨ (k = 2 ∧ nm t = true) ∨ (k = 3 ∧ sg t = true)
theorem scn_ind (s : ByteArray) (M : Nat → List S32 → Prop) (Q : Int × List S32 → Prop)
    (hblank : ∀ i out, i < s.size → M i out → (bt s i = 32 ∨ bt s i = 9 ∨ bt s i = 10) → M (i + 1) out)
    (hnote : ∀ i out, i < s.size → M i out → bt s i = 35 → M (ov lexic_Scan.notNl s i) out)
    (htok : ∀ i out j k, i < j → j ≤ s.size → M i out → Tok k (s.extract i j) → M j (out ++ [⟨k, s.extract i j, i⟩]))
    (hend : ∀ out, M s.size out → Q (-1, out ++ [⟨0, ⟨#[]⟩, s.size⟩]))
    (hbad : ∀ i out, i < s.size → M i out → Q ((i : Int), out)) : ∀ (f i : Nat) (out : List S32), i ≤ s.size → s.size < f + i → M i out → Q (lexic_Scan.scn s f i out)
  | 0, i, out, h1, h2, hM => by omega
  | f + 1, i, out, h1, h2, hM => by
    have next : ∀ (j : Nat) (out' : List S32), i < j → j ≤ s.size → M j out' → Q (lexic_Scan.scn s f j out') := fun j out' hj1 hj2 hM' => scn_ind s M Q hblank hnote htok hend hbad f j out' hj2 (by omega) hM'
    rw [lexic_Scan.scn]
    by_cases hi : i < s.size
    case neg =>
      obtain rfl : i = s.size := by omega
      rw [if_neg hi, ext_same]
      exact hend out hM
    case pos =>
    rw [if_pos hi]
    by_cases b32 : bt s i = 32
    · rw [if_pos b32]; exact next _ _ (by omega) (by omega) (hblank i out hi hM (.inl b32))
    by_cases b9 : bt s i = 9
    · rw [if_neg b32, if_pos b9]; exact next _ _ (by omega) (by omega) (hblank i out hi hM (.inr (.inl b9)))
    by_cases b10 : bt s i = 10
    · rw [if_neg b32, if_neg b9, if_pos b10]; exact next _ _ (by omega) (by omega) (hblank i out hi hM (.inr (.inr b10)))
    rw [if_neg b32, if_neg b9, if_neg b10]
    by_cases b35 : bt s i = 35
    · rw [if_pos b35]; exact next _ _ (ov_lt lexic_Scan.notNl s i hi (by rw [b35]; decide)) (ov_size lexic_Scan.notNl s i h1) (hnote i out hi hM b35)
    rw [if_neg b35]
    by_cases hsm : lexic_word.isSmall (bt s i) = true
    · rw [if_pos hsm]
      have hlt : i < lexic_Scan.ovr lexic_Scan.smDg s (s.size - i) i := ov_lt lexic_Scan.smDg s i hi (by show (_ || _) = true; rw [hsm, Bool.true_or])
      have hle : lexic_Scan.ovr lexic_Scan.smDg s (s.size - i) i ≤ s.size := ov_size lexic_Scan.smDg s i h1
      split
      · rename_i hw
        rw [word_eq] at hw
        exact next _ _ hlt hle (htok i out _ 1 hlt hle hM (.inl ⟨rfl, Option.some.inj hw⟩))
      · exact hbad i out hi hM
    rw [if_neg hsm]
    by_cases hdg : lexic_word.isDigit (bt s i) = true
    · rw [if_pos hdg]
      have hlt : i < lexic_Scan.ovr lexic_word.isDigit s (s.size - i) i := ov_lt lexic_word.isDigit s i hi hdg
      have hle : lexic_Scan.ovr lexic_word.isDigit s (s.size - i) i ≤ s.size := ov_size lexic_word.isDigit s i h1
      split
      · rename_i hw
        rw [number_eq] at hw
        exact next _ _ hlt hle (htok i out _ 2 hlt hle hM (.inr (.inl ⟨rfl, Option.some.inj hw⟩)))
      · exact hbad i out hi hM
    rw [if_neg hdg]
    have hf : bt (s.extract i (i + 1)) 0 = bt s i := bt_ext s i (i + 1) 0 (by omega) (by omega)
    have hz : (s.extract i (i + 1)).size = 1 := by rw [ext_size _ _ _ (by omega)]; omega
    have good : (bt s i = 123 ∨ bt s i = 125 ∨ bt s i = 59) → M (i + 1) (out ++ [⟨3, s.extract i (i + 1), i⟩]) := fun hb => htok i out (i + 1) 3 (by omega) (by omega) hM (.inr (.inr ⟨rfl, (sg_one _).2 ⟨hz, by rw [hf]; exact hb⟩⟩))
    split
    · rename_i hb; exact next _ _ (by omega) (by omega) (good (.inl hb))
    split
    · rename_i hb; exact next _ _ (by omega) (by omega) (good (.inr (.inl hb)))
    split
    · rename_i hb; exact next _ _ (by omega) (by omega) (good (.inr (.inr hb)))
    · exact hbad i out hi hM

/-- Tokens that are moved on. -/
def sh (n : Nat) (t : S32) : S32 := ⟨t.f0, t.f1, t.f2 + n⟩
def shq (n : Nat) (q : Int × List S32) : Int × List S32 := (if q.1 < 0 then q.1 else q.1 + n, q.2.map (sh n))
theorem bt_behind (a s : ByteArray) (i : Nat) (h : i < s.size) : bt (a ++ s) ((a.size + i : Nat) : Int) = bt s i := by
  have h1 : a.size + i < (a ++ s).data.toList.length := by rw [← size_eq_length, ByteArray.size_append]; omega
  have h2 : i < s.data.toList.length := by rw [← size_eq_length]; exact h
  rw [bt_get _ _ h1, bt_get _ _ h2]
  congr 2
  simp only [data_append]
  rw [List.getElem_append_right (by rw [← size_eq_length]; omega)]
  congr 1
  rw [← size_eq_length]; omega
theorem ext_behind (a s : ByteArray) (i j : Nat) : (a ++ s).extract (a.size + i) (a.size + j) = s.extract i j := by
  apply str_ext
  simp only [data_extract, data_append]
  rw [size_eq_length, List.drop_append, List.drop_of_length_le (by omega), List.nil_append]
  congr 1
  · omega
  · congr 1; omega
theorem ov_behind (p : Int → Bool) (a s : ByteArray) : ∀ (d i : Nat), s.size - i = d → ov p (a ++ s) (a.size + i) = a.size + ov p s i
  | 0, i, hd => by
    rw [ov_end _ _ _ (by rw [ByteArray.size_append]; omega), ov_end _ _ _ (by omega)]
  | d + 1, i, hd => by
    have hb := bt_behind a s i (by omega)
    by_cases hp : p (bt s i) = true
    · rw [ov_go _ _ i (by omega) hp, ov_go _ _ (a.size + i) (by rw [ByteArray.size_append]; omega) (by rw [hb]; exact hp)]
      exact ov_behind p a s d (i + 1) (by omega)
    · rw [ov_stop _ _ i (by omega) hp, ov_stop _ _ (a.size + i) (by rw [ByteArray.size_append]; omega) (by rw [hb]; exact hp)]
theorem scn_behind (a s : ByteArray) : ∀ (f g i : Nat) (out : List S32), i ≤ s.size → s.size < f + i → s.size < g + i → lexic_Scan.scn (a ++ s) g (a.size + i) (out.map (sh a.size)) = shq a.size (lexic_Scan.scn s f i out)
  | 0, g, i, out, h1, h2, h3 => by omega
  | f + 1, 0, i, out, h1, h2, h3 => by omega
  | f + 1, g + 1, i, out, h1, h2, h3 => by
    have next : ∀ (j : Nat) (out' : List S32), i < j → j ≤ s.size → lexic_Scan.scn (a ++ s) g (a.size + j) (out'.map (sh a.size)) = shq a.size (lexic_Scan.scn s f j out') := fun j out' hj1 hj2 => scn_behind a s f g j out' hj2 (by omega) (by omega)
    have hsz : (a ++ s).size = a.size + s.size := ByteArray.size_append
    have push : ∀ (k : Int) (j : Nat), out.map (sh a.size) ++ [(⟨k, (a ++ s).extract (a.size + i) (a.size + j), ((a.size + i : Nat) : Int)⟩ : S32)] = (out ++ [(⟨k, s.extract i j, (i : Int)⟩ : S32)]).map (sh a.size) := by
      intro k j
      rw [List.map_append, ext_behind]
      simp only [List.map_cons, List.map_nil, sh]
      congr 3
      omega
    have bad : (((a.size + i : Nat) : Int), out.map (sh a.size)) = shq a.size ((i : Int), out) := by
      unfold shq
      rw [if_neg (by show ¬ (i : Int) < 0; omega)]
      congr 1
      show ((a.size + i : Nat) : Int) = (i : Int) + a.size
      omega
    rw [lexic_Scan.scn, lexic_Scan.scn]
    by_cases hi : i < s.size
    case neg =>
      rw [if_neg hi, if_neg (by omega), push 0 i]
      rfl
    case pos =>
    rw [if_pos hi, if_pos (by omega), bt_behind a s i hi]
    have hov : ∀ p : Int → Bool, lexic_Scan.ovr p (a ++ s) ((a ++ s).size - (a.size + i)) (a.size + i) = a.size + lexic_Scan.ovr p s (s.size - i) i := fun p => ov_behind p a s _ i rfl
    simp only [hov, ext_behind]
    by_cases b32 : bt s i = 32
    · rw [if_pos b32, if_pos b32]; exact next (i + 1) out (by omega) (by omega)
    by_cases b9 : bt s i = 9
    · rw [if_neg b32, if_neg b32, if_pos b9, if_pos b9]; exact next (i + 1) out (by omega) (by omega)
    by_cases b10 : bt s i = 10
    · rw [if_neg b32, if_neg b32, if_neg b9, if_neg b9, if_pos b10, if_pos b10]; exact next (i + 1) out (by omega) (by omega)
    rw [if_neg b32, if_neg b32, if_neg b9, if_neg b9, if_neg b10, if_neg b10]
    by_cases b35 : bt s i = 35
    · rw [if_pos b35, if_pos b35]; exact next _ out (ov_lt lexic_Scan.notNl s i hi (by rw [b35]; decide)) (ov_size lexic_Scan.notNl s i h1)
    rw [if_neg b35, if_neg b35]
    have push' : ∀ (k : Int) (j : Nat), out.map (sh a.size) ++ [(⟨k, s.extract i j, ((a.size + i : Nat) : Int)⟩ : S32)] = (out ++ [(⟨k, s.extract i j, (i : Int)⟩ : S32)]).map (sh a.size) := fun k j => by rw [← push k j, ext_behind]
    by_cases hsm : lexic_word.isSmall (bt s i) = true
    · rw [if_pos hsm, if_pos hsm]
      have hlt : i < lexic_Scan.ovr lexic_Scan.smDg s (s.size - i) i := ov_lt lexic_Scan.smDg s i hi (by show (_ || _) = true; rw [hsm, Bool.true_or])
      have hle : lexic_Scan.ovr lexic_Scan.smDg s (s.size - i) i ≤ s.size := ov_size lexic_Scan.smDg s i h1
      generalize lexic_Scan.ovr lexic_Scan.smDg s (s.size - i) i = j at hlt hle ⊢
      by_cases hw : lexic_word.f (s.extract i j) = some true
      · rw [if_pos hw, if_pos hw, push']; exact next j _ hlt hle
      · rw [if_neg hw, if_neg hw]; exact bad
    rw [if_neg hsm, if_neg hsm]
    by_cases hdg : lexic_word.isDigit (bt s i) = true
    · rw [if_pos hdg, if_pos hdg]
      have hlt : i < lexic_Scan.ovr lexic_word.isDigit s (s.size - i) i := ov_lt lexic_word.isDigit s i hi hdg
      have hle : lexic_Scan.ovr lexic_word.isDigit s (s.size - i) i ≤ s.size := ov_size lexic_word.isDigit s i h1
      generalize lexic_Scan.ovr lexic_word.isDigit s (s.size - i) i = j at hlt hle ⊢
      by_cases hw : lexic_number.f (s.extract i j) = some true
      · rw [if_pos hw, if_pos hw, push']; exact next j _ hlt hle
      · rw [if_neg hw, if_neg hw]; exact bad
    rw [if_neg hdg, if_neg hdg]
    have one : lexic_Scan.scn (a ++ s) g (a.size + i + 1) (out.map (sh a.size) ++ [⟨3, (a ++ s).extract (a.size + i) (a.size + i + 1), ((a.size + i : Nat) : Int)⟩]) = shq a.size (lexic_Scan.scn s f (i + 1) (out ++ [⟨3, s.extract i (i + 1), (i : Int)⟩])) := by
      have := push 3 (i + 1)
      rw [← Nat.add_assoc] at this
      rw [this]
      exact next (i + 1) _ (by omega) (by omega)
    by_cases b123 : bt s i = 123
    · rw [if_pos b123, if_pos b123]; exact one
    by_cases b125 : bt s i = 125
    · rw [if_neg b123, if_neg b123, if_pos b125, if_pos b125]; exact one
    by_cases b59 : bt s i = 59
    · rw [if_neg b123, if_neg b123, if_neg b125, if_neg b125, if_pos b59, if_pos b59]; exact one
    rw [if_neg b123, if_neg b123, if_neg b125, if_neg b125, if_neg b59, if_neg b59]
    exact bad
end Go.Proofs.YtghpbcfkldbpjabDoor.LD

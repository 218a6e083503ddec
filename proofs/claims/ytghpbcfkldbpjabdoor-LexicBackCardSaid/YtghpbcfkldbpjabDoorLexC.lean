/- Lists of tokens held against themselves; the statements' fixed answers. -/
import Derived.Test.YtghpbcfkldbpjabDoorLexB
import Derived.Test.YtghpbcfkldbpjabDoorPLx8
namespace Go.Proofs.YtghpbcfkldbpjabDoor.LC
open Go.RowKit Go.Proofs.YtghpbcfkldbpjabDoorW.PrintWords Go.Proofs.YtghpbcfkldbpjabDoor.B Go.Proofs.YtghpbcfkldbpjabDoor.PL Go.Proofs.YtghpbcfkldbpjabDoor.LA Go.Proofs.YtghpbcfkldbpjabDoor.LB
set_option linter.unusedSimpArgs false
set_option linter.unusedVariables false

theorem scn_len (s : ByteArray) : ∀ (f i : Nat) (out : List S32), i ≤ s.size → out.length ≤ i → (lexic_Scan.scn s f i out).2.length ≤ s.size + 1
  | 0, i, out, h1, h2 => by rw [lexic_Scan.scn]; show out.length ≤ _; omega
  | f + 1, i, out, h1, h2 => by
    have next : ∀ (j : Nat) (out' : List S32), i < j → j ≤ s.size → out'.length ≤ i + 1 → (lexic_Scan.scn s f j out').2.length ≤ s.size + 1 := fun j out' hj1 hj2 ho => scn_len s f j out' hj2 (by omega)
    have stop : (((i : Int), out) : Int × List S32).2.length ≤ s.size + 1 := by show out.length ≤ _; omega
    have more : ∀ (x : S32), (out ++ [x]).length ≤ i + 1 := fun x => by rw [List.length_append]; simp only [List.length_cons, List.length_nil]; omega
    rw [lexic_Scan.scn]
    by_cases hi : i < s.size
    case neg => rw [if_neg hi]; show (out ++ [_]).length ≤ _; have := more ⟨0, s.extract i i, i⟩; omega
    case pos =>
    rw [if_pos hi]
    by_cases b32 : bt s i = 32
    · rw [if_pos b32]; exact next _ _ (by omega) (by omega) (by omega)
    by_cases b9 : bt s i = 9
    · rw [if_neg b32, if_pos b9]; exact next _ _ (by omega) (by omega) (by omega)
    by_cases b10 : bt s i = 10
    · rw [if_neg b32, if_neg b9, if_pos b10]; exact next _ _ (by omega) (by omega) (by omega)
    rw [if_neg b32, if_neg b9, if_neg b10]
    by_cases b35 : bt s i = 35
    · rw [if_pos b35]; exact next _ _ (ov_lt lexic_Scan.notNl s i hi (by rw [b35]; decide)) (ov_size lexic_Scan.notNl s i h1) (by omega)
    rw [if_neg b35]
    by_cases hsm : lexic_word.isSmall (bt s i) = true
    · rw [if_pos hsm]
      split
      · exact next _ _ (ov_lt lexic_Scan.smDg s i hi (by show (_ || _) = true; rw [hsm, Bool.true_or])) (ov_size lexic_Scan.smDg s i h1) (more _)
      · exact stop
    rw [if_neg hsm]
    by_cases hdg : lexic_word.isDigit (bt s i) = true
    · rw [if_pos hdg]
      split
      · exact next _ _ (ov_lt lexic_word.isDigit s i hi hdg) (ov_size lexic_word.isDigit s i h1) (more _)
      · exact stop
    rw [if_neg hdg]
    split
    · exact next _ _ (by omega) (by omega) (more _)
    split
    · exact next _ _ (by omega) (by omega) (more _)
    split
    · exact next _ _ (by omega) (by omega) (more _)
    · exact stop
theorem sc_len (s : ByteArray) : (sc s).1.length ≤ 2001 := by
  unfold sc res
  split
  · exact Nat.zero_le _
  · split
    · show (lexic_Scan.scn s (s.size + 1) 0 []).2.length ≤ 2001
      have := scn_len s (s.size + 1) 0 [] (Nat.zero_le _) (Nat.le_refl _); omega
    · exact Nat.zero_le _
theorem same_loop (l : List S32) (hl : l.length ≤ 100000) : ∀ (d i : Nat), l.length - i = d → i ≤ l.length → Ev (fun k => ententeref08_Same.l0 k l l (i : Int)) true
  | 0, i, hd, h => Ev.step (fun k => by rw [ententeref08_Same.l0]) (ev_neg (by omega) (Ev.some rfl))
  | d + 1, i, hd, h => by
    refine Ev.step (fun k => by rw [ententeref08_Same.l0]) (ev_pos (by omega) (ev_pos (by omega) (ev_pos (by omega) (ev_neg (by simp) ?_))))
    rw [wrap64_of (by omega) (by omega)]
    exact same_loop l hl d (i + 1) (by omega) (by omega)
theorem same_ev (l : List S32) (hl : l.length ≤ 100000) : Ev (fun k => ententeref08_Same.f k l l) true := by
  unfold ententeref08_Same.f
  exact ev_pos rfl (same_loop l hl _ 0 rfl (Nat.zero_le _))
theorem awake_ev : Ev ententelaw08_awake.f true := Ev.of (fun k => ententelaw08_awake.mono k) (k := 60) (by decide +kernel)
end Go.Proofs.YtghpbcfkldbpjabDoor.LC

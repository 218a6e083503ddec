/- The program's scan and the document's: both cut any text alike. -/
import Derived.Test.YtghpbcfkldbpjabDoorLexA
import Derived.Test.YtghpbcfkldbpjabDoorPLx4
import Derived.Test.YtghpbcfkldbpjabDoorPLx7
import Derived.Test.YtghpbcfkldbpjabDoorPLx5
import Derived.Test.YtghpbcfkldbpjabDoorPLx6
namespace Go.Proofs.YtghpbcfkldbpjabDoor.LB
open Go.RowKit Go.Proofs.YtghpbcfkldbpjabDoorW.PrintWords Go.Proofs.YtghpbcfkldbpjabDoor.B Go.Proofs.YtghpbcfkldbpjabDoor.PL Go.Proofs.YtghpbcfkldbpjabDoor.LA
set_option linter.unusedSimpArgs false
set_option linter.unusedVariables false

/-- How far a test goes from a place on. -/
def ov (p : Int → Bool) (s : ByteArray) (i : Nat) : Nat := lexic_Scan.ovr p s (s.size - i) i
theorem ov_go (p : Int → Bool) (s : ByteArray) (i : Nat) (h : i < s.size) (hp : p (bt s i) = true) : ov p s i = ov p s (i + 1) := by
  obtain ⟨k, hk⟩ : ∃ k, s.size - i = k + 1 := ⟨s.size - i - 1, by omega⟩
  unfold ov
  rw [hk, lexic_Scan.ovr, if_pos h, if_pos hp, show s.size - (i + 1) = k by omega]
theorem ov_stop (p : Int → Bool) (s : ByteArray) (i : Nat) (h : i < s.size) (hp : ¬ p (bt s i) = true) : ov p s i = i := by
  obtain ⟨k, hk⟩ : ∃ k, s.size - i = k + 1 := ⟨s.size - i - 1, by omega⟩
  unfold ov
  rw [hk, lexic_Scan.ovr, if_pos h, if_neg hp]
theorem ov_end (p : Int → Bool) (s : ByteArray) (i : Nat) (h : s.size ≤ i) : ov p s i = i := by
  unfold ov
  rw [Nat.sub_eq_zero_of_le h, lexic_Scan.ovr]
theorem ov_le (p : Int → Bool) (s : ByteArray) (i : Nat) : i ≤ ov p s i := lexic_Scan.ovr_le p s _ i
theorem ov_size (p : Int → Bool) (s : ByteArray) (i : Nat) (h : i ≤ s.size) : ov p s i ≤ s.size := lexic_Scan.ovr_end p s _ i h
theorem ov_lt (p : Int → Bool) (s : ByteArray) (i : Nat) (h : i < s.size) (hp : p (bt s i) = true) : i < ov p s i := lexic_Scan.ovr_lt p s i h hp
theorem ov_all (p : Int → Bool) (s : ByteArray) : ∀ (d i j : Nat), s.size - i = d → i ≤ j → j < ov p s i → p (bt s j) = true
  | 0, i, j, hd, h1, h2 => by rw [ov_end _ _ _ (by omega)] at h2; omega
  | d + 1, i, j, hd, h1, h2 => by
    by_cases hp : p (bt s i) = true
    · by_cases e : i = j
      · rw [← e]; exact hp
      · rw [ov_go _ _ _ (by omega) hp] at h2
        exact ov_all p s d (i + 1) j (by omega) (by omega) h2
    · rw [ov_stop _ _ _ (by omega) hp] at h2; omega

/-! ### blanks -/
theorem blank_loop (s : ByteArray) (hs : s.size ≤ 2000) (at_ : Nat) : ∀ (d n : Nat), s.size - (at_ + n) = d → at_ + n ≤ s.size → Ev (fun k => ententeref08_blank.l0 k s (at_ : Int) (n : Int)) ((ov lexic_Scan.notNl s (at_ + n) : Int) - at_)
  | 0, n, hd, h => by
    refine Ev.step (fun k => by rw [ententeref08_blank.l0]) ?_
    rw [wrap64_of (by omega) (by omega)]
    refine ev_neg (by omega) (Ev.some ?_)
    rw [ov_end _ _ _ (by omega)]; omega
  | d + 1, n, hd, h => by
    refine Ev.step (fun k => by rw [ententeref08_blank.l0]) ?_
    rw [wrap64_of (by omega) (by omega)]
    refine ev_pos (by omega) (ev_pos (by omega) ?_)
    refine ev_ite (fun hb => Ev.some ?_) (fun hb => ?_)
    · rw [ov_stop _ _ _ (by omega) (by simp only [lexic_Scan.notNl, decide_eq_true_eq]; intro hn; exact hn (by rw [← hb]; congr 1))]; omega
    · rw [wrap64_of (by omega) (by omega), ov_go _ _ _ (by omega) (by simp only [lexic_Scan.notNl, decide_eq_true_eq]; intro hn; exact hb (by rw [← hn]; congr 1))]
      exact blank_loop s hs at_ d (n + 1) (by omega) (by omega)
/-- How many bytes of blanks stand at a place. -/
def bl (s : ByteArray) (i : Nat) : Int := if bt s i = 32 then 1 else if bt s i = 9 then 1 else if bt s i = 10 then 1 else if bt s i = 35 then (ov lexic_Scan.notNl s i : Int) - i else 0
theorem blank_ev (s : ByteArray) (hs : s.size ≤ 2000) (i : Nat) (h : i < s.size) : Ev (fun k => ententeref08_blank.f k s (i : Int)) (bl s i) := by
  unfold ententeref08_blank.f bl
  refine ev_pos (by omega) (ev_pos (by omega) (ev_ite (fun h1 => ?_) (fun h1 => ev_ite (fun h2 => ?_) (fun h2 => ?_))))
  · rw [if_pos h1]
    exact Ev.step (fun k => by rw [ententeref08_blank.j0]) (ev_pos rfl (Ev.some rfl))
  · rw [if_neg h1, if_pos h2]
    exact Ev.step (fun k => by rw [ententeref08_blank.j0]) (ev_pos rfl (Ev.some rfl))
  · rw [if_neg h1, if_neg h2]
    refine Ev.step (fun k => by rw [ententeref08_blank.j0]) (ev_ite (fun h3 => ?_) (fun h3 => ev_pos (by omega) (ev_pos (by omega) (ev_ite (fun h4 => ?_) (fun h4 => ?_)))))
    · rw [if_pos (by simpa using h3)]; exact Ev.some rfl
    · rw [if_neg (by simpa using h3), if_pos h4]
      exact blank_loop s hs i _ 0 rfl (by omega)
    · rw [if_neg (by simpa using h3), if_neg h4]; exact Ev.some rfl

/-! ### a token's text -/
theorem ext_size (s : ByteArray) (i j : Nat) (h : j ≤ s.size) : (s.extract i j).size = j - i := by rw [ByteArray.size_extract]; omega
theorem bt_ext (s : ByteArray) (i j n : Nat) (hj : j ≤ s.size) (h : n < j - i) : bt (s.extract i j) (n : Int) = bt s ((i + n : Nat) : Int) := by
  have h1 : n < (s.extract i j).data.toList.length := by rw [← size_eq_length, ext_size _ _ _ hj]; exact h
  have h2 : i + n < s.data.toList.length := by rw [← size_eq_length]; omega
  rw [bt_get _ n h1, bt_get _ (i + n) h2]
  congr 2
  simp only [data_extract, List.getElem_take, List.getElem_drop]
def sg (t : ByteArray) : Bool := decide (t.toList = [123]) || (decide (t.toList = [125]) || decide (t.toList = [59]))
theorem sign_eq (t : ByteArray) : ententeref08_sign.f t = some (sg t) := by
  unfold ententeref08_sign.f sg
  by_cases h1 : t.toList = [123]
  · rw [if_pos h1, decide_eq_true h1]; rfl
  · rw [if_neg h1, decide_eq_false h1, Bool.false_or]
    by_cases h2 : t.toList = [125]
    · rw [if_pos h2, decide_eq_true h2]; rfl
    · rw [if_neg h2, decide_eq_false h2, Bool.false_or, show (t.toList == [59]) = decide (t.toList = [59]) by rw [Bool.eq_iff_iff, beq_iff_eq, decide_eq_true_eq]]
/-- A token's kind by its text; 0: none. -/
def kd (t : ByteArray) : Int := if sg t = true then 3 else if nm t = true then 2 else if wd t = true then 1 else 0
theorem sg_one (t : ByteArray) : sg t = true ↔ t.size = 1 ∧ (bt t 0 = 123 ∨ bt t 0 = 125 ∨ bt t 0 = 59) := by
  have key : ∀ (c : UInt8), t.toList = [c] ↔ t.size = 1 ∧ bt t 0 = (c.toNat : Int) := by
    intro c
    rw [ByteArray.toList_eq]
    have aux : ∀ l : List UInt8, t.size = l.length → (∀ h : 0 < l.length, bt t 0 = (l[0].toNat : Int)) → (l = [c] ↔ t.size = 1 ∧ bt t 0 = (c.toNat : Int)) := by
      intro l hl hb
      rw [hl]
      cases l with
      | nil => simp
      | cons a l =>
        cases l with
        | nil =>
          rw [hb (by simp)]
          simp only [List.cons.injEq, and_true, List.length_cons, List.length_nil, Nat.zero_add, true_and, List.getElem_cons_zero]
          exact ⟨fun e => by rw [e], fun e => UInt8.toNat.inj (by omega)⟩
        | cons b l => simp
    exact aux _ (size_eq_length t) (fun h => bt_get t 0 h)
  unfold sg
  simp only [Bool.or_eq_true, decide_eq_true_eq, key]
  constructor
  · rintro (⟨h, e⟩ | ⟨h, e⟩ | ⟨h, e⟩)
    · exact ⟨h, .inl e⟩
    · exact ⟨h, .inr (.inl e)⟩
    · exact ⟨h, .inr (.inr e)⟩
  · rintro ⟨h, e | e | e⟩
    · exact .inl ⟨h, e⟩
    · exact .inr (.inl ⟨h, e⟩)
    · exact .inr (.inr ⟨h, e⟩)
theorem nm_first (t : ByteArray) (h : nm t = true) : dg (bt t 0) = true := by
  unfold nm at h
  simp only [Bool.and_eq_true, decide_eq_true_eq] at h
  obtain ⟨⟨⟨h1, h2⟩, h3⟩, h4⟩ := h
  rw [allF_step _ _ _ (by omega), Bool.and_eq_true] at h3
  exact h3.1
theorem wd_first (t : ByteArray) (h : wd t = true) : sm (bt t 0) = true := by
  unfold wd at h
  simp only [Bool.and_eq_true, decide_eq_true_eq] at h
  exact h.1.2

/-! ### the scan -/
def res (q : Int × List S32) : List S32 × Int × Int := if q.1 < 0 then (q.2, 0, 0) else ([], 80, q.1)
theorem j4_ev {s : ByteArray} {out : List S32} {i j : Nat} {R : List S32 × Int × Int} (hij : i ≤ j) (hj : j ≤ s.size) (ho : out.length < 4398046511104)
    (h0 : kd (s.extract i j) = 0 → R = ([], 80, (i : Int))) (h1 : kd (s.extract i j) ≠ 0 → Ev (fun k => ententeref08_Scan.l0 k s (out ++ [⟨kd (s.extract i j), s.extract i j, i⟩]) (j : Int)) R) : Ev (fun k => ententeref08_Scan.j4 k s out (i : Int) (j : Int)) R := by
  refine Ev.step (fun k => by rw [ententeref08_Scan.j4]) (ev_pos (by omega) (ev_pos (by omega) (ev_pos (by omega) ?_)))
  rw [show ((i : Int)).toNat = i by omega, show ((j : Int)).toNat = j by omega]
  generalize s.extract i j = t at h0 h1 ⊢
  refine Ev.bind (name_ev t) ?_
  have j6 : ∀ x : Int, x = (if nm t = true then 2 else if wd t = true then 1 else 0) → Ev (fun k => ententeref08_Scan.j6 k s out (i : Int) (j : Int) t x) R := by
    intro x hx
    refine Ev.step (fun k => by rw [ententeref08_Scan.j6]) (ev_bind0 (sign_eq t) (ev_ite (fun h => ev_pos ho ?_) (fun h => ?_)))
    · have e : kd t = 3 := by unfold kd; rw [if_pos h]
      rw [e] at h1
      exact h1 (by omega)
    · have e : kd t = x := by unfold kd; rw [if_neg h, hx]
      rw [e] at h0 h1
      exact ev_ite (fun hx => Ev.some (h0 hx).symm) (fun hx => ev_pos ho (h1 hx))
  have j5 : ∀ x : Int, x = (if wd t = true then 1 else 0) → Ev (fun k => ententeref08_Scan.j5 k s out (i : Int) (j : Int) t x) R := by
    intro x hx
    refine Ev.step (fun k => by rw [ententeref08_Scan.j5]) (Ev.bind (num_ev t) (ev_ite (fun h => j6 2 (by rw [if_pos h])) (fun h => j6 x (by rw [if_neg h]; exact hx))))
  exact ev_ite (fun h => j5 1 (by rw [if_pos h])) (fun h => j5 0 (by rw [if_neg h]))
theorem l1_ev (s : ByteArray) (hs : s.size ≤ 2000) (out : List S32) (i : Nat) (R : List S32 × Int × Int) : ∀ (d j : Nat), s.size - j = d → j ≤ s.size → Ev (fun k => ententeref08_Scan.j2 k s out (i : Int) (ov LA.smDg s j : Int)) R → Ev (fun k => ententeref08_Scan.l1 k s out (i : Int) (j : Int)) R
  | 0, j, hd, h, hr => by
    rw [ov_end _ _ _ (by omega)] at hr
    exact Ev.step (fun k => by rw [ententeref08_Scan.l1]) (ev_neg (by omega) hr)
  | d + 1, j, hd, h, hr => by
    refine Ev.step (fun k => by rw [ententeref08_Scan.l1]) (ev_pos (by omega) (ev_pos (by omega) (ev_bind0 (small_eq _) (ev_ite (fun h1 => ?_) (fun h1 => ev_bind0 (digit_eq _) (ev_ite (fun h2 => ?_) (fun h2 => ?_)))))))
    · rw [wrap64_of (by omega) (by omega)]
      exact l1_ev s hs out i R d (j + 1) (by omega) (by omega) (by rw [← ov_go _ _ _ (by omega) (by unfold LA.smDg; rw [h1, Bool.true_or])]; exact hr)
    · rw [wrap64_of (by omega) (by omega)]
      exact l1_ev s hs out i R d (j + 1) (by omega) (by omega) (by rw [← ov_go _ _ _ (by omega) (by unfold LA.smDg; rw [h2, Bool.or_true])]; exact hr)
    · rw [ov_stop _ _ _ (by omega) (by unfold LA.smDg; rw [Bool.or_eq_true]; exact fun h3 => h3.elim h1 h2)] at hr
      exact hr
theorem l2_ev (s : ByteArray) (hs : s.size ≤ 2000) (out : List S32) (i : Nat) (R : List S32 × Int × Int) : ∀ (d j : Nat), s.size - j = d → j ≤ s.size → Ev (fun k => ententeref08_Scan.j4 k s out (i : Int) (ov LA.dg s j : Int)) R → Ev (fun k => ententeref08_Scan.l2 k s out (i : Int) (j : Int)) R
  | 0, j, hd, h, hr => by
    rw [ov_end _ _ _ (by omega)] at hr
    exact Ev.step (fun k => by rw [ententeref08_Scan.l2]) (ev_neg (by omega) hr)
  | d + 1, j, hd, h, hr => by
    refine Ev.step (fun k => by rw [ententeref08_Scan.l2]) (ev_pos (by omega) (ev_pos (by omega) (ev_bind0 (digit_eq _) (ev_ite (fun h2 => ?_) (fun h2 => ?_)))))
    · rw [wrap64_of (by omega) (by omega)]
      exact l2_ev s hs out i R d (j + 1) (by omega) (by omega) (by rw [← ov_go _ _ _ (by omega) h2]; exact hr)
    · rw [ov_stop _ _ _ (by omega) h2] at hr
      exact hr
theorem ext_same (s : ByteArray) (i : Nat) : s.extract i i = (⟨#[]⟩ : ByteArray) := by
  apply str_ext
  rw [data_extract, Nat.sub_self, List.take_zero]
theorem scan_ev (s : ByteArray) (hs : s.size ≤ 2000) : ∀ (f i : Nat) (out : List S32), i ≤ s.size → s.size < f + i → out.length ≤ i → Ev (fun k => ententeref08_Scan.l0 k s out (i : Int)) (res (lexic_Scan.scn s f i out))
  | 0, i, out, h1, h2, h3 => by omega
  | f + 1, i, out, h1, h2, h3 => by
    refine Ev.step (fun k => by rw [ententeref08_Scan.l0]) ?_
    rw [lexic_Scan.scn]
    by_cases hi : i < s.size
    case neg =>
      rw [if_neg hi]
      refine ev_neg (by omega) (ev_pos (by omega) (Ev.some ?_))
      unfold res
      rw [if_pos (by show (-1 : Int) < 0; omega), ext_same]
    case pos =>
    rw [if_pos hi]
    refine ev_pos (by omega) (Ev.bind (blank_ev s hs i hi) ?_)
    have next : ∀ (j : Nat) (out' : List S32) (x : Int), x = (j : Int) → i < j → j ≤ s.size → out'.length ≤ j → Ev (fun k => ententeref08_Scan.l0 k s out' x) (res (lexic_Scan.scn s f j out')) := by
      intro j out' x hx hj1 hj2 ho
      subst hx
      exact scan_ev s hs f j out' hj2 (by omega) ho
    have one : bl s i = 1 → Ev (fun k => if bl s i > 0 then ententeref08_Scan.l0 k s out (wrap64 ((i : Int) + bl s i)) else if 0 ≤ (i : Int) then (ententeref08_small.f (bt s i)).bind fun t107 => if t107 = true then ententeref08_Scan.l1 k s out i (wrap64 ((i : Int) + 1)) else ententeref08_Scan.j2 k s out i (wrap64 ((i : Int) + 1)) else none) (res (lexic_Scan.scn s f (i + 1) out)) := by
      intro hb
      rw [hb]
      exact ev_pos (by omega) (next (i + 1) out _ (by rw [wrap64_of (by omega) (by omega)]; omega) (by omega) (by omega) (by omega))
    by_cases b32 : bt s i = 32
    · rw [if_pos b32]; exact one (by unfold bl; rw [if_pos b32])
    by_cases b9 : bt s i = 9
    · rw [if_neg b32, if_pos b9]; exact one (by unfold bl; rw [if_neg b32, if_pos b9])
    by_cases b10 : bt s i = 10
    · rw [if_neg b32, if_neg b9, if_pos b10]; exact one (by unfold bl; rw [if_neg b32, if_neg b9, if_pos b10])
    rw [if_neg b32, if_neg b9, if_neg b10]
    clear one
    by_cases b35 : bt s i = 35
    · rw [if_pos b35]
      have hlt := ov_lt lexic_Scan.notNl s i hi (by rw [b35]; decide)
      have hle := ov_size lexic_Scan.notNl s i h1
      have hb : bl s i = (ov lexic_Scan.notNl s i : Int) - i := by unfold bl; rw [if_neg b32, if_neg b9, if_neg b10, if_pos b35]
      rw [hb]
      exact ev_pos (by omega) (next (ov lexic_Scan.notNl s i) out _ (by rw [wrap64_of (by omega) (by omega)]; omega) hlt hle (by omega))
    have hb : bl s i = 0 := by unfold bl; rw [if_neg b32, if_neg b9, if_neg b10, if_neg b35]
    rw [if_neg b35, hb]
    refine ev_neg (by omega) (ev_pos (by omega) (ev_bind0 (small_eq _) ?_))
    rw [wrap64_of (by omega) (by omega)]
    have w64 : (i : Int) + 1 = ((i + 1 : Nat) : Int) := by omega
    rw [w64]
    by_cases hsm : sm (bt s i) = true
    · rw [if_pos hsm]
      have hg : LA.smDg (bt s i) = true := by unfold LA.smDg; rw [hsm, Bool.true_or]
      have e : ov LA.smDg s (i + 1) = lexic_Scan.ovr lexic_Scan.smDg s (s.size - i) i := (ov_go _ _ _ hi hg).symm
      have hlt := ov_lt LA.smDg s i hi hg
      have hle := ov_size LA.smDg s i h1
      have e2 : ov LA.smDg s i = lexic_Scan.ovr lexic_Scan.smDg s (s.size - i) i := rfl
      refine ev_pos hsm (l1_ev s hs out i _ _ (i + 1) rfl (by omega) ?_)
      rw [e]
      rw [e2] at hlt hle
      generalize lexic_Scan.ovr lexic_Scan.smDg s (s.size - i) i = j at hlt hle ⊢
      have hnd : ¬ dg (bt s i) = true := by rw [dg_iff]; rw [sm_iff] at hsm; omega
      have hf : bt (s.extract i j) 0 = bt s i := bt_ext s i j 0 hle (by omega)
      have k1 : sg (s.extract i j) = false := by
        cases h : sg (s.extract i j) with
        | false => rfl
        | true => rw [sg_one, hf] at h; rw [sm_iff] at hsm; omega
      have k2 : nm (s.extract i j) = false := by
        cases h : nm (s.extract i j) with
        | false => rfl
        | true => have := nm_first _ h; rw [hf] at this; exact absurd this hnd
      refine Ev.step (fun k => by rw [ententeref08_Scan.j2]) (ev_pos (by omega) (ev_pos (by omega) (ev_bind0 (digit_eq _) (ev_neg hnd ?_))))
      refine j4_ev (by omega) hle (by omega) (fun hk => ?_) (fun hk => ?_)
      · rw [word_eq]
        unfold kd at hk
        rw [if_neg (by rw [k1]; decide), if_neg (by rw [k2]; decide)] at hk
        cases hw : wd (s.extract i j) with
        | true => rw [if_pos hw] at hk; omega
        | false => rw [if_neg (by decide)]; unfold res; rw [if_neg (by show ¬ (i : Int) < 0; omega)]
      · rw [word_eq]
        unfold kd at hk ⊢
        rw [if_neg (by rw [k1]; decide), if_neg (by rw [k2]; decide)] at hk ⊢
        cases hw : wd (s.extract i j) with
        | false => rw [if_neg (by rw [hw]; decide)] at hk; exact absurd rfl hk
        | true => rw [if_pos rfl, if_pos rfl]; exact next j _ _ rfl (by omega) hle (by rw [List.length_append]; simp only [List.length_cons, List.length_nil]; omega)
    rw [if_neg hsm]
    refine ev_neg hsm ?_
    by_cases hdg : dg (bt s i) = true
    · rw [if_pos hdg]
      have e : ov LA.dg s (i + 1) = lexic_Scan.ovr lexic_word.isDigit s (s.size - i) i := (ov_go _ _ _ hi hdg).symm
      have hlt := ov_lt LA.dg s i hi hdg
      have hle := ov_size LA.dg s i h1
      have e2 : ov LA.dg s i = lexic_Scan.ovr lexic_word.isDigit s (s.size - i) i := rfl
      refine Ev.step (fun k => by rw [ententeref08_Scan.j2]) (ev_pos (by omega) (ev_pos (by omega) (ev_bind0 (digit_eq _) (ev_pos hdg (l2_ev s hs out i _ _ (i + 1) rfl (by omega) ?_)))))
      rw [e]
      rw [e2] at hlt hle
      generalize lexic_Scan.ovr lexic_word.isDigit s (s.size - i) i = j at hlt hle ⊢
      have hf : bt (s.extract i j) 0 = bt s i := bt_ext s i j 0 hle (by omega)
      have k1 : sg (s.extract i j) = false := by
        cases h : sg (s.extract i j) with
        | false => rfl
        | true => rw [sg_one, hf] at h; rw [dg_iff] at hdg; omega
      have k3 : wd (s.extract i j) = false := by
        cases h : wd (s.extract i j) with
        | false => rfl
        | true => have := wd_first _ h; rw [hf] at this; exact absurd this hsm
      refine j4_ev (by omega) hle (by omega) (fun hk => ?_) (fun hk => ?_)
      · rw [number_eq]
        unfold kd at hk
        rw [if_neg (by rw [k1]; decide)] at hk
        cases hw : nm (s.extract i j) with
        | true => rw [if_pos hw] at hk; omega
        | false => rw [if_neg (by decide)]; unfold res; rw [if_neg (by show ¬ (i : Int) < 0; omega)]
      · rw [number_eq]
        unfold kd at hk ⊢
        rw [if_neg (by rw [k1]; decide)] at hk ⊢
        cases hw : nm (s.extract i j) with
        | false => rw [if_neg (by rw [hw]; decide), if_neg (by rw [k3]; decide)] at hk; exact absurd rfl hk
        | true => rw [if_pos rfl, if_pos rfl]; exact next j _ _ rfl (by omega) hle (by rw [List.length_append]; simp only [List.length_cons, List.length_nil]; omega)
    rw [if_neg hdg]
    refine Ev.step (fun k => by rw [ententeref08_Scan.j2]) (ev_pos (by omega) (ev_pos (by omega) (ev_bind0 (digit_eq _) (ev_neg hdg ?_))))
    have hf : bt (s.extract i (i + 1)) 0 = bt s i := bt_ext s i (i + 1) 0 (by omega) (by omega)
    have hz : (s.extract i (i + 1)).size = 1 := by rw [ext_size _ _ _ (by omega)]; omega
    have k2 : nm (s.extract i (i + 1)) = false := by
      cases h : nm (s.extract i (i + 1)) with
      | false => rfl
      | true => have := nm_first _ h; rw [hf] at this; exact absurd this hdg
    have k3 : wd (s.extract i (i + 1)) = false := by
      cases h : wd (s.extract i (i + 1)) with
      | false => rfl
      | true => have := wd_first _ h; rw [hf] at this; exact absurd this hsm
    have k1 := sg_one (s.extract i (i + 1))
    rw [hf] at k1
    have good : (bt s i = 123 ∨ bt s i = 125 ∨ bt s i = 59) → Ev (fun k => ententeref08_Scan.j4 k s out (i : Int) ((i + 1 : Nat) : Int)) (res (lexic_Scan.scn s f (i + 1) (out ++ [⟨3, s.extract i (i + 1), i⟩]))) := by
      intro hb
      have e : kd (s.extract i (i + 1)) = 3 := by unfold kd; rw [if_pos (k1.2 ⟨hz, hb⟩)]
      refine j4_ev (by omega) (by omega) (by omega) (fun hk => by rw [e] at hk; omega) (fun hk => ?_)
      rw [e]
      exact next (i + 1) _ _ rfl (by omega) (by omega) (by rw [List.length_append]; simp only [List.length_cons, List.length_nil]; omega)
    by_cases b123 : bt s i = 123
    · rw [if_pos b123]; exact good (.inl b123)
    by_cases b125 : bt s i = 125
    · rw [if_neg b123, if_pos b125]; exact good (.inr (.inl b125))
    by_cases b59 : bt s i = 59
    · rw [if_neg b123, if_neg b125, if_pos b59]; exact good (.inr (.inr b59))
    rw [if_neg b123, if_neg b125, if_neg b59]
    have e : kd (s.extract i (i + 1)) = 0 := by
      unfold kd
      rw [if_neg (fun h => by have := k1.1 h; omega), if_neg (by rw [k2]; decide), if_neg (by rw [k3]; decide)]
    refine j4_ev (by omega) (by omega) (by omega) (fun hk => ?_) (fun hk => absurd e hk)
    unfold res
    rw [if_neg (by show ¬ (i : Int) < 0; omega)]

/-- What a scan tells. -/
def sc (s : ByteArray) : List S32 × Int × Int := if s.size > 2000 then ([], 3, 0) else res (lexic_Scan.scn s (s.size + 1) 0 [])
theorem scan_eq (s : ByteArray) : lexic_Scan.f s = some (sc s) := by
  unfold lexic_Scan.f sc res
  by_cases h : s.size > 2000
  · rw [if_pos h, if_pos h]
  · rw [if_neg h, if_neg h]
    by_cases h2 : (lexic_Scan.scn s (s.size + 1) 0 []).1 < 0
    · rw [if_pos h2, if_pos h2]
    · rw [if_neg h2, if_neg h2]
theorem ref_scan (s : ByteArray) : Ev (fun k => ententeref08_Scan.f k s) (sc s) := by
  unfold ententeref08_Scan.f sc
  refine ev_ite (fun h => ?_) (fun h => ?_)
  · rw [if_pos (by omega)]; exact Ev.some rfl
  · rw [if_neg (by omega)]; exact scan_ev s (by omega) _ 0 [] (by omega) (by omega) (Nat.le_refl _)
end Go.Proofs.YtghpbcfkldbpjabDoor.LB

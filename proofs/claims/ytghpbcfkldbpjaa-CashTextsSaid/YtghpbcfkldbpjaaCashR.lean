/- Amounts read out of texts by the document's answer: the amount that is written so, or none. -/
import Derived.Test.YtghpbcfkldbpjaaCashP
namespace Go.Proofs.Ytghpbcfkldbpjaa.CA
open Go.RowKit Go.Proofs.Ytghpbcfkldbpjaa.PC Go.Proofs.YtghpbcfkldbpjaaW.PrintWords Go.Proofs.Ytghpbcfkldbpjaa.B

/-- The document's reader over a list of bytes: below: is there a sign; fst: is this the first byte; n: what was read, below 0. -/
def rstep (below : Bool) : List UInt8 → Bool → Int → Option Int
  | [], _, n => some n
  | c :: l, fst, n => if (c.toNat : Int) = 46 then rstep below l false n else if (fst && below) = true then rstep below l false n else if (c.toNat : Int) < 48 then none else if (c.toNat : Int) > 57 then none
    else if n < -922337203685477580 then none else if n = -922337203685477580 ∧ (c.toNat : Int) > 56 then none else rstep below l false (10 * n - ((c.toNat : Int) - 48))
def fin (s : ByteArray) (below : Bool) : Option Int → Int × Int
  | none => (0, 40)
  | some n => if below = true then (if showB n = s then (n, 0) else (0, 40)) else if n < -9223372036854775807 then (0, 40) else if showB (-n) = s then (-n, 0) else (0, 40)

theorem rstep_range (below : Bool) : ∀ (l : List UInt8) (fst : Bool) (n m : Int), -9223372036854775808 ≤ n → n ≤ 0 → rstep below l fst n = some m → -9223372036854775808 ≤ m ∧ m ≤ 0 := by
  intro l
  induction l with
  | nil => intro fst n m h0 h1 h; simp [rstep] at h; omega
  | cons c l ih =>
    intro fst n m h0 h1 h
    simp only [rstep] at h
    split at h
    · exact ih _ _ _ h0 h1 h
    split at h
    · exact ih _ _ _ h0 h1 h
    split at h
    · cases h
    split at h
    · cases h
    split at h
    · cases h
    split at h
    · cases h
    · exact ih _ _ _ (by omega) (by omega) h

theorem refLoop (s : ByteArray) (below : Bool) (hs : s.data.toList.length ≤ 1000) : ∀ (d i : Nat) (n : Int), i + d = s.data.toList.length → -9223372036854775808 ≤ n → n ≤ 0 →
    Ev (fun k => ententeref04_Parse.l0 k s n below (i : Int)) (fin s below (rstep below (s.data.toList.drop i) (decide (i = 0)) n)) := by
  intro d
  have hz := size_eq_length s
  induction d with
  | zero =>
    intro i n hi h0 h1
    rw [List.drop_of_length_le (by omega)]
    refine Ev.step (fun k => by rw [ententeref04_Parse.l0]) (ev_neg (by omega) ?_)
    simp only [rstep, fin]
    cases below with
    | true =>
      rw [if_pos rfl]
      refine ev_pos rfl (Ev.bind (refShow_ev ⟨by omega, by omega⟩) ?_)
      by_cases c : showB n = s
      · rw [if_pos c]; exact ev_pos (by rw [c]) (Ev.now _)
      · rw [if_neg c]; exact ev_neg (by rw [toList_inj]; exact c) (Ev.now _)
    | false =>
      rw [if_neg (by decide)]
      refine ev_neg (by decide) ?_
      by_cases c0 : n < -9223372036854775807
      · rw [if_pos c0]; exact ev_pos c0 (Ev.now _)
      · rw [if_neg c0]
        refine ev_neg c0 ?_
        rw [wrap64_of (by omega) (by omega)]
        refine Ev.bind (refShow_ev ⟨by omega, by omega⟩) ?_
        by_cases c : showB (-n) = s
        · rw [if_pos c]; exact ev_pos (by rw [c]) (Ev.now _)
        · rw [if_neg c]; exact ev_neg (by rw [toList_inj]; exact c) (Ev.now _)
  | succ d ih =>
    intro i n hi h0 h1
    have hlt : i < s.data.toList.length := by omega
    have hd : s.data.toList.drop i = s.data.toList[i] :: s.data.toList.drop (i + 1) := List.drop_eq_getElem_cons hlt
    have hb := bt_get s i hlt
    have w : wrap64 ((i : Int) + 1) = ((i + 1 : Nat) : Int) := by rw [wrap64_of (by omega) (by omega)]; omega
    rw [hd]
    refine Ev.step (fun k => by rw [ententeref04_Parse.l0]) (ev_pos (by omega) (ev_pos (by omega) ?_))
    have hc := (s.data.toList[i]).toNat_lt
    generalize hg : s.data.toList[i] = c at hb hc ⊢
    rw [hb]
    simp only [rstep]
    have next : ∀ m, -9223372036854775808 ≤ m → m ≤ 0 → Ev (fun k => ententeref04_Parse.l0 k s m below ((i + 1 : Nat) : Int)) (fin s below (rstep below (s.data.toList.drop (i + 1)) false m)) := by
      intro m g0 g1
      have := ih (i + 1) m (by omega) g0 g1
      rw [show decide (i + 1 = 0) = false from decide_eq_false (by omega)] at this
      exact this
    have skip : Ev (fun k => ententeref04_Parse.j2 k s n below (i : Int) true) (fin s below (rstep below (s.data.toList.drop (i + 1)) false n)) := by
      refine Ev.step (fun k => by rw [ententeref04_Parse.j2]) (ev_pos rfl ?_)
      rw [w]; exact next n h0 h1
    by_cases c1 : (c.toNat : Int) = 46
    · rw [if_pos c1]; exact ev_pos c1 skip
    rw [if_neg c1]
    refine ev_neg c1 ?_
    have take : Ev (fun k => ententeref04_Parse.j2 k s n below (i : Int) false) (fin s below (if (c.toNat : Int) < 48 then none else if (c.toNat : Int) > 57 then none
        else if n < -922337203685477580 then none else if n = -922337203685477580 ∧ (c.toNat : Int) > 56 then none else rstep below (s.data.toList.drop (i + 1)) false (10 * n - ((c.toNat : Int) - 48)))) := by
      refine Ev.step (fun k => by rw [ententeref04_Parse.j2]) (ev_neg (by decide) (ev_pos (by omega) (ev_pos (by omega) ?_)))
      rw [hb, wrap64_of (x := (c.toNat : Int)) (by omega) (by omega), wrap64_of (x := (c.toNat : Int) - 48) (by omega) (by omega), w]
      by_cases d1 : (c.toNat : Int) < 48
      · rw [if_pos d1]; exact ev_pos (by omega) (Ev.now _)
      rw [if_neg d1]
      refine ev_neg (by omega) ?_
      by_cases d2 : (c.toNat : Int) > 57
      · rw [if_pos d2]; exact ev_pos (by omega) (Ev.now _)
      rw [if_neg d2]
      refine ev_neg (by omega) ?_
      by_cases d3 : n < -922337203685477580
      · rw [if_pos d3]; exact ev_pos d3 (Ev.now _)
      rw [if_neg d3]
      refine ev_neg d3 ?_
      by_cases d4 : n = -922337203685477580
      · refine ev_pos d4 ?_
        by_cases d5 : (c.toNat : Int) > 56
        · rw [if_pos ⟨d4, d5⟩]; exact ev_pos (by omega) (Ev.now _)
        · rw [if_neg (fun h => d5 h.2)]
          refine ev_neg (by omega) ?_
          rw [wrap64_of (x := 10 * n) (by omega) (by omega), wrap64_of (by omega) (by omega)]
          exact next _ (by omega) (by omega)
      · rw [if_neg (fun h => d4 h.1)]
        refine ev_neg d4 ?_
        rw [wrap64_of (x := 10 * n) (by omega) (by omega), wrap64_of (by omega) (by omega)]
        exact next _ (by omega) (by omega)
    by_cases c2 : i = 0
    · refine ev_pos (by omega) ?_
      rw [show decide (i = 0) = true from decide_eq_true c2, Bool.true_and]
      cases below with
      | true => rw [if_pos rfl]; exact skip
      | false => rw [if_neg (by decide)]; exact take
    · refine ev_neg (by omega) ?_
      rw [show decide (i = 0) = false from decide_eq_false c2, Bool.false_and, if_neg (by decide)]
      exact take

theorem refParse_ev (s : ByteArray) : Ev (fun k => ententeref04_Parse.f k s) (if s.size < 4 ∨ s.size > 21 then (0, 40) else fin s (decide (s.data.toList.head? = some 45)) (rstep (decide (s.data.toList.head? = some 45)) s.data.toList true 0)) := by
  refine Ev.congr (fun k => by rw [ententeref04_Parse.f]) ?_
  have bad : Ev (fun k => ententeref04_Parse.j0 k s true) (0, 40) := Ev.step (fun k => by rw [ententeref04_Parse.j0]) (ev_pos rfl (Ev.now _))
  by_cases c1 : s.size < 4
  · rw [if_pos (.inl c1)]; exact ev_pos (by omega) bad
  refine ev_neg (by omega) ?_
  by_cases c2 : s.size > 21
  · rw [if_pos (.inr c2), show decide ((s.size : Int) > 21) = true from decide_eq_true (by omega)]; exact bad
  rw [if_neg (by omega), show decide ((s.size : Int) > 21) = false from decide_eq_false (by omega)]
  have hz := size_eq_length s
  refine Ev.step (fun k => by rw [ententeref04_Parse.j0]) (ev_neg (by decide) (ev_pos (by omega) ?_))
  have hb : (bt s 0 == 45) = decide (s.data.toList.head? = some 45) := by
    obtain ⟨c, l, hl⟩ : ∃ c l, s.data.toList = c :: l := by
      cases hl : s.data.toList with
      | nil => rw [hl] at hz; simp only [List.length_nil] at hz; omega
      | cons c l => exact ⟨c, l, rfl⟩
    have h := bt_get s 0 (by omega)
    have e0 : s.data.toList[0]'(by omega) = c := by simp [hl]
    rw [e0, show (((0 : Nat) : Int)) = 0 from rfl] at h
    rw [h, hl]
    simp only [List.head?_cons, Option.some.injEq]
    by_cases e : c = 45
    · subst e; rfl
    · rw [decide_eq_false e, beq_eq_false_iff_ne]
      intro he
      apply e
      apply UInt8.toNat_inj.1
      have : (45 : UInt8).toNat = 45 := rfl
      omega
  rw [hb]
  have := refLoop s (decide (s.data.toList.head? = some 45)) (by omega) s.data.toList.length 0 0 (by omega) (by omega) (by omega)
  simpa using this

theorem fin_sound (s : ByteArray) (below : Bool) (o : Option Int) (h : ∀ n, o = some n → -9223372036854775808 ≤ n ∧ n ≤ 0) : fin s below o = (0, 40) ∨ ∃ a, I64 a ∧ fin s below o = (a, 0) ∧ showB a = s := by
  cases o with
  | none => exact .inl rfl
  | some n =>
    obtain ⟨h0, h1⟩ := h n rfl
    simp only [fin]
    split
    · split
      · rename_i c; exact .inr ⟨n, ⟨by omega, by omega⟩, rfl, c⟩
      · exact .inl rfl
    · split
      · exact .inl rfl
      · split
        · rename_i c; exact .inr ⟨-n, ⟨by omega, by omega⟩, rfl, c⟩
        · exact .inl rfl

theorem rstep_digit (below fst : Bool) (d : Nat) (hd : d < 10) (l : List UInt8) (n : Int) (hf : (fst && below) = false) (h0 : -922337203685477580 ≤ n) (h1 : n = -922337203685477580 → d ≤ 8) :
    rstep below (UInt8.ofNat (48 + (d : Int)).toNat :: l) fst n = rstep below l false (10 * n - d) := by
  simp only [rstep]
  rw [toNat_by (by omega) (by omega), if_neg (by omega), if_neg (by rw [hf]; decide), if_neg (by omega), if_neg (by omega), if_neg (by omega), if_neg (by omega)]
  congr 1; omega
theorem rstep_dg (below : Bool) : ∀ (m : Nat) (fst : Bool) (l : List UInt8), (fst && below) = false → m ≤ 9223372036854775808 → rstep below (by8 (dg m) ++ l) fst 0 = rstep below l false (-(m : Int)) := by
  intro m
  induction m using Nat.strongRecOn with
  | _ m ih =>
    intro fst l hf hm
    rw [dg]
    split
    · rename_i h
      have := rstep_digit below fst m h l 0 hf (by omega) (by omega)
      simpa [by8] using this
    · rename_i h
      rw [by8_append, List.append_assoc, ih (m / 10) (by omega) fst _ hf (by omega)]
      have := rstep_digit below false (m % 10) (by omega) l (-((m / 10 : Nat) : Int)) rfl (by omega) (by omega)
      rw [show 10 * -((m / 10 : Nat) : Int) - ((m % 10 : Nat) : Int) = -(m : Int) by omega] at this
      simpa [by8] using this
theorem rstep_shown {a : Int} (ha : I64 a) : decide ((showB a).data.toList.head? = some 45) = decide (a < 0) ∧ rstep (decide (a < 0)) (showB a).data.toList true 0 = some (-(a.natAbs : Int)) := by
  obtain ⟨h0, h1⟩ := ha
  have tailEq : ∀ below, rstep below (by8 [46, 48 + ((a.natAbs / 10 % 10 : Nat) : Int), 48 + ((a.natAbs % 10 : Nat) : Int)]) false (-((a.natAbs / 100 : Nat) : Int)) = some (-(a.natAbs : Int)) := by
    intro below
    have e1 := rstep_digit below false (a.natAbs / 10 % 10) (by omega) [UInt8.ofNat (48 + ((a.natAbs % 10 : Nat) : Int)).toNat] (-((a.natAbs / 100 : Nat) : Int)) rfl (by omega) (by omega)
    have e2 := rstep_digit below false (a.natAbs % 10) (by omega) [] (10 * -((a.natAbs / 100 : Nat) : Int) - ((a.natAbs / 10 % 10 : Nat) : Int)) rfl (by omega) (by omega)
    have e0 : rstep below (by8 [46, 48 + ((a.natAbs / 10 % 10 : Nat) : Int), 48 + ((a.natAbs % 10 : Nat) : Int)]) false (-((a.natAbs / 100 : Nat) : Int)) = rstep below (UInt8.ofNat (48 + ((a.natAbs / 10 % 10 : Nat) : Int)).toNat :: [UInt8.ofNat (48 + ((a.natAbs % 10 : Nat) : Int)).toNat]) false (-((a.natAbs / 100 : Nat) : Int)) := by
      show rstep below (46 :: _) false _ = _
      rw [rstep, if_pos (by decide)]; rfl
    rw [e0, e1, e2]
    simp only [rstep]
    congr 1; omega
  by_cases c : a < 0
  · have hd : (showB a).data.toList = 45 :: (by8 (dg (a.natAbs / 100)) ++ by8 [46, 48 + ((a.natAbs / 10 % 10 : Nat) : Int), 48 + ((a.natAbs % 10 : Nat) : Int)]) := by
      rw [showB_data, showL, if_pos c, by8_append, by8_append]; rfl
    rw [hd, decide_eq_true c]
    refine ⟨by rw [List.head?_cons]; decide, ?_⟩
    rw [rstep, if_neg (by decide), if_pos (by decide), rstep_dg true _ false _ rfl (by omega)]
    exact tailEq true
  · have hd : (showB a).data.toList = by8 (dg (a.natAbs / 100)) ++ by8 [46, 48 + ((a.natAbs / 10 % 10 : Nat) : Int), 48 + ((a.natAbs % 10 : Nat) : Int)] := by
      rw [showB_data, showL, if_neg c, List.nil_append, by8_append]
    rw [decide_eq_false c, hd]
    refine ⟨decide_eq_false ?_, ?_⟩
    · intro he
      cases hg : dg (a.natAbs / 100) with
      | nil => exact dg_ne _ hg
      | cons x l =>
        rw [hg] at he
        have hx := dg_digit (a.natAbs / 100) x (by rw [hg]; simp)
        simp [by8] at he
        have := congrArg (fun u : UInt8 => (u.toNat : Int)) he
        simp only [toNat_by (show 0 ≤ x by omega) (by omega)] at this
        simp at this; omega
    · rw [rstep_dg false _ true _ rfl (by omega)]
      exact tailEq false
theorem refParse_shown {a : Int} (ha : I64 a) : Ev (fun k => ententeref04_Parse.f k (showB a)) (a, 0) := by
  have h := refParse_ev (showB a)
  have hz := showB_size ha
  obtain ⟨e1, e2⟩ := rstep_shown ha
  obtain ⟨h0, h1⟩ := ha
  rw [if_neg (by omega), e1, e2] at h
  simp only [fin] at h
  by_cases c : a < 0
  · rw [decide_eq_true c, if_pos rfl, if_pos (by congr 1; omega)] at h
    rw [show -((a.natAbs : Nat) : Int) = a by omega] at h
    exact h
  · rw [decide_eq_false c, if_neg (by decide), if_neg (by omega), if_pos (by congr 1; omega)] at h
    rw [show -(-((a.natAbs : Nat) : Int)) = a by omega] at h
    exact h
theorem refParse_sound (s : ByteArray) : ∃ r : Int × Int, Ev (fun k => ententeref04_Parse.f k s) r ∧ (r = (0, 40) ∨ ∃ a, I64 a ∧ r = (a, 0) ∧ showB a = s) := by
  refine ⟨_, refParse_ev s, ?_⟩
  split
  · exact .inl rfl
  · exact fin_sound _ _ _ (fun n h => rstep_range _ _ _ 0 n (by omega) (by omega) h)
theorem ev_unique {α : Type} {g : Nat → Option α} {a b : α} (h : Ev g a) (k : Ev g b) : a = b := by
  obtain ⟨K, h⟩ := h
  obtain ⟨L, k⟩ := k
  have h1 := h (max K L) (by omega)
  have h2 := k (max K L) (by omega)
  rw [h1] at h2; injection h2
theorem parses_agree (s : ByteArray) (hs : s.size ≤ 140737488355328) : ∃ r : Int × Int, Ev (fun k => cash_Parse.f k s) r ∧ Ev (fun k => ententeref04_Parse.f k s) r := by
  obtain ⟨r, h1, h2, _⟩ := parse_ev s hs
  obtain ⟨q, k1, k2⟩ := refParse_sound s
  rcases h2 with rfl | ⟨a, ha, rfl, he⟩
  · rcases k2 with rfl | ⟨b, hb, rfl, he⟩
    · exact ⟨_, h1, k1⟩
    · have := parse_shown hb (by rw [he]; exact hs)
      rw [he] at this
      have e := ev_unique h1 this
      rw [← e] at k1
      exact ⟨_, h1, k1⟩
  · have := refParse_shown ha
    rw [he] at this
    exact ⟨_, h1, this⟩
end Go.Proofs.Ytghpbcfkldbpjaa.CA

/- Amounts read out of texts: whatever text, the printed Parse of package cash and that of the document's answer tell the amount that is written so, or none. -/
import Derived.Test.YtghpbcfkldbpjaaCashS
import Derived.Lib.IndexLaws
namespace Go.Proofs.Ytghpbcfkldbpjaa.CA
open Go.RowKit Go.Proofs.Ytghpbcfkldbpjaa.PC Go.Proofs.YtghpbcfkldbpjaaW.PrintWords Go.Proofs.Ytghpbcfkldbpjaa.B

/-! ### pieces of a text -/
theorem cutPrefix_eq (s : ByteArray) (hs : s.size ≤ 140737488355328) : strings_CutPrefix.f s (⟨#[45]⟩ : ByteArray) = some (if s.data.toList.head? = some 45 then (s.extract 1 s.size, true) else (s, false)) := by
  have h1 : ((⟨#[45]⟩ : ByteArray).size : Int) = 1 := rfl
  have h2 : (⟨#[45]⟩ : ByteArray).toList = [45] := by rw [ByteArray.toList_eq]
  unfold strings_CutPrefix.f stringslite_CutPrefix.f stringslite_HasPrefix.f
  rw [h1, h2]
  have hsz := size_eq_length s
  cases hl : s.data.toList with
  | nil =>
    rw [hl] at hsz
    simp only [List.length_nil] at hsz
    rw [if_neg (by omega)]
    simp
  | cons c l =>
    rw [hl] at hsz
    simp only [List.length_cons] at hsz
    rw [if_pos (by omega), if_pos (by omega), if_pos (by omega)]
    have e : (s.extract 0 (1 : Int).toNat).toList = [c] := by
      rw [ByteArray.toList_eq, data_extract, hl]; rfl
    rw [e]
    simp only [Option.bind_some, List.head?_cons, Option.some.injEq]
    by_cases c1 : c = 45
    · subst c1
      rw [if_pos (by simp), if_pos (by omega), if_pos (by omega), if_pos rfl]; rfl
    · rw [if_neg (by simpa using c1), if_neg c1]; rfl

def cutRes (t : ByteArray) : ByteArray × ByteArray × Bool :=
  if 0 ≤ Lib.indexByte t.data.toList 46 then (t.extract 0 (Lib.indexByte t.data.toList 46).toNat, t.extract ((Lib.indexByte t.data.toList 46).toNat + 1) t.size, true) else (t, ⟨#[]⟩, false)
theorem index_bound (l : List UInt8) (c : UInt8) : Lib.indexByte l c < l.length ∨ Lib.indexByte l c = -1 := by
  have h := Lib.indexByte_ge l c
  by_cases h0 : 0 ≤ Lib.indexByte l c
  · obtain ⟨o, ho⟩ := Int.eq_ofNat_of_zero_le h0
    have := (Lib.indexByte_some ho).1
    rw [List.getElem?_eq_some_iff] at this
    obtain ⟨h1, _⟩ := this
    omega
  · omega
theorem cut_ev (t : ByteArray) (ht : t.size ≤ 140737488355328) : Ev (fun k => strings_Cut.f k t (⟨#[46]⟩ : ByteArray)) (cutRes t) := by
  have h1 : ((⟨#[46]⟩ : ByteArray).size : Int) = 1 := rfl
  have h2 : (⟨#[46]⟩ : ByteArray).toList = [46] := by rw [ByteArray.toList_eq]
  have hb : bt (⟨#[46]⟩ : ByteArray) 0 = 46 := by decide
  have hi : Ev (fun k => stringslite_Index.f k t (⟨#[46]⟩ : ByteArray)) (Lib.indexByte t.data.toList 46) := by
    refine Ev.congr (fun k => by rw [stringslite_Index.f]) ?_
    rw [h1, h2]
    refine ev_neg (by decide) (Ev.step (fun k => by rw [stringslite_Index.j0]) ?_)
    by_cases c : t.toList = [46]
    · refine ev_pos (by simp [c]) (Ev.some ?_)
      rw [ByteArray.toList_eq] at c
      rw [c]; rfl
    · refine ev_neg (by rw [beq_iff_eq]; exact fun h => c h.symm) (ev_pos rfl (ev_pos (by rw [h1]; decide) ?_))
      rw [hb]
      refine ev_bind0 (a := Lib.indexByte t.data.toList 46) rfl (Ev.now _)
  refine Ev.congr (fun k => by rw [strings_Cut.f, stringslite_Cut.f]) ?_
  rw [h1]
  have hl := index_bound t.data.toList 46
  rw [← size_eq_length] at hl
  unfold cutRes
  generalize Lib.indexByte t.data.toList 46 = i at hi hl ⊢
  by_cases c : 0 ≤ i
  · rw [if_pos c]
    have inner : Ev (fun k => (stringslite_Index.f k t (⟨#[46]⟩ : ByteArray)).bind fun t143 => (if t143 ≥ 0 then (if 0 ≤ t143 then (if t143 ≤ (t.size : Int) then (if 0 ≤ (wrap64 (t143 + 1)) then (if (wrap64 (t143 + 1)) ≤ (t.size : Int) then (some (t.extract 0 (t143 : Int).toNat, t.extract ((wrap64 (t143 + 1)) : Int).toNat t.size, true)) else (none)) else (none)) else (none)) else (none)) else (some (t, (⟨#[]⟩ : ByteArray), false)))) (t.extract 0 i.toNat, t.extract (i.toNat + 1) t.size, true) := by
      refine Ev.bind hi ?_
      rw [wrap64_of (by omega) (by omega)]
      refine ev_pos (by omega) (ev_pos c (ev_pos (by omega) (ev_pos (by omega) (ev_pos (by omega) (Ev.some ?_)))))
      rw [show (i + 1).toNat = i.toNat + 1 by omega]
    exact Ev.bind inner (Ev.now _)
  · rw [if_neg c]
    have inner : Ev (fun k => (stringslite_Index.f k t (⟨#[46]⟩ : ByteArray)).bind fun t143 => (if t143 ≥ 0 then (if 0 ≤ t143 then (if t143 ≤ (t.size : Int) then (if 0 ≤ (wrap64 (t143 + 1)) then (if (wrap64 (t143 + 1)) ≤ (t.size : Int) then (some (t.extract 0 (t143 : Int).toNat, t.extract ((wrap64 (t143 + 1)) : Int).toNat t.size, true)) else (none)) else (none)) else (none)) else (none)) else (some (t, (⟨#[]⟩ : ByteArray), false)))) (t, ⟨#[]⟩, false) := by
      refine Ev.bind hi (ev_neg (by omega) (Ev.now _))
    exact Ev.bind inner (Ev.now _)

/-! ### the digits -/
theorem digits_u64 : ∀ (l : List UInt8) (n m : Int), U64 n → cash_Parse.digits l n = some m → U64 m := by
  intro l
  induction l with
  | nil => intro n m hn h; simp [cash_Parse.digits] at h; exact h ▸ hn
  | cons c l ih =>
    intro n m hn h
    simp only [cash_Parse.digits] at h
    split at h
    · cases h
    split at h
    · cases h
    split at h
    · cases h
    exact ih _ m (by rw [u64_wrap]; unfold U64; omega) h

theorem rest_ev (s : ByteArray) (below : Bool) (n : Int) (hn : U64 n) : ∃ r : Int × Int, Ev (fun k => cash_Parse.rest k s below n) r ∧ (r = (0, 40) ∨ ∃ a, I64 a ∧ r = (a, 0) ∧ showB a = s) ∧
    (∀ a, I64 a → (below = true → a = -n) → (below = false → a = n) → showB a = s → r = (a, 0)) := by
  have hs := signed_ev hn below
  have key : ∀ a : Int, I64 a → Ev (fun k => cash_signed.f k n below) (a, 0) → ∃ r : Int × Int, Ev (fun k => cash_Parse.rest k s below n) r ∧ (r = (0, 40) ∨ ∃ a, I64 a ∧ r = (a, 0) ∧ showB a = s) ∧ (showB a = s → r = (a, 0)) := by
    intro a ha h
    by_cases c : showB a = s
    · refine ⟨(a, 0), ?_, .inr ⟨a, ha, rfl, c⟩, fun _ => rfl⟩
      refine Ev.congr (fun k => by rw [cash_Parse.rest]) ?_
      exact Ev.bind h (ev_pos rfl (Ev.bind (show_ev ha) (ev_pos (by rw [c]) (Ev.now _))))
    · refine ⟨(0, 40), ?_, .inl rfl, fun h => absurd h c⟩
      refine Ev.congr (fun k => by rw [cash_Parse.rest]) ?_
      exact Ev.bind h (ev_pos rfl (Ev.bind (show_ev ha) (ev_neg (by rw [toList_inj]; exact c) (Ev.now _))))
  have bad : Ev (fun k => cash_signed.f k n below) (0, 40) → Ev (fun k => cash_Parse.rest k s below n) (0, 40) := by
    intro h
    refine Ev.congr (fun k => by rw [cash_Parse.rest]) ?_
    exact Ev.bind h (ev_neg (by decide) (Ev.now _))
  obtain ⟨n0, n1⟩ := hn
  cases below with
  | true =>
    rw [if_pos rfl] at hs
    by_cases c : n ≤ 9223372036854775808
    · rw [if_pos c] at hs
      obtain ⟨r, h1, h2, h3⟩ := key (-n) ⟨by omega, by omega⟩ hs
      exact ⟨r, h1, h2, fun a _ h _ he => by rw [h rfl] at he ⊢; exact h3 he⟩
    · rw [if_neg c] at hs
      exact ⟨_, bad hs, .inl rfl, fun a ha h _ _ => by have := h rfl; have := ha.1; omega⟩
  | false =>
    rw [if_neg (by decide)] at hs
    by_cases c : n < 9223372036854775808
    · rw [if_pos c] at hs
      obtain ⟨r, h1, h2, h3⟩ := key n ⟨by omega, by omega⟩ hs
      exact ⟨r, h1, h2, fun a _ _ h he => by rw [h rfl] at he ⊢; exact h3 he⟩
    · rw [if_neg c] at hs
      exact ⟨_, bad hs, .inl rfl, fun a ha _ h _ => by have := h rfl; have := ha.2; omega⟩

/-- What a text leads to: the text behind the sign, its two parts, the digits' number. -/
def Reads (s : ByteArray) (below : Bool) (n : Int) : Prop :=
  ∃ t, (if s.data.toList.head? = some 45 then (s.extract 1 s.size, true) else (s, false)) = (t, below) ∧ (cutRes t).2.2 = true ∧ (cutRes t).2.1.size = 2 ∧ (cutRes t).1.size ≠ 0 ∧ (cutRes t).1.size ≤ 18 ∧ cash_Parse.digits ((cutRes t).1 ++ (cutRes t).2.1).data.toList 0 = some n
theorem size_extract_le (a : ByteArray) (i j : Nat) : (a.extract i j).size ≤ a.size := by
  rw [size_eq_length, size_eq_length, data_extract, List.length_take, List.length_drop]; omega

theorem parse_ev (s : ByteArray) (hs : s.size ≤ 140737488355328) : ∃ r : Int × Int, Ev (fun k => cash_Parse.f k s) r ∧ (r = (0, 40) ∨ ∃ a, I64 a ∧ r = (a, 0) ∧ showB a = s) ∧
    (∀ a below n, I64 a → Reads s below n → (below = true → a = -n) → (below = false → a = n) → showB a = s → r = (a, 0)) := by
  have hcp := cutPrefix_eq s hs
  generalize ht : (if s.data.toList.head? = some 45 then (s.extract 1 s.size, true) else (s, false)) = tb at hcp
  obtain ⟨t, below⟩ := tb
  have htz : t.size ≤ 140737488355328 := by
    have := size_extract_le s 1 s.size
    split at ht
    · injection ht with h1 _; rw [← h1]; omega
    · injection ht with h1 _; rw [← h1]; exact hs
  have hc := cut_ev t htz
  have start : ∀ r, Ev (fun k => if (cutRes t).2.2 = false then some ((0 : Int), (40 : Int)) else if (cutRes t).2.1.size = 2 then (if (cutRes t).1.size = 0 then some (0, 40) else if (cutRes t).1.size > 18 then some (0, 40) else
      cash_Parse.tail k s below (cash_Parse.digits ((cutRes t).1 ++ (cutRes t).2.1).data.toList 0)) else some (0, 40)) r → Ev (fun k => cash_Parse.f k s) r := by
    intro r h
    refine Ev.congr (fun k => by rw [cash_Parse.f]) ?_
    exact ev_bind0 hcp (Ev.bind hc h)
  by_cases c1 : (cutRes t).2.2 = false
  · exact ⟨_, start _ (ev_pos c1 (Ev.now _)), .inl rfl, fun a b n _ ⟨t', e, h, _⟩ _ _ _ => by rw [ht] at e; injection e with e1 _; subst e1; rw [c1] at h; cases h⟩
  by_cases c2 : (cutRes t).2.1.size = 2
  case neg => exact ⟨_, start _ (ev_neg c1 (ev_neg c2 (Ev.now _))), .inl rfl, fun a b n _ ⟨t', e, _, h, _⟩ _ _ _ => by rw [ht] at e; injection e with e1 _; subst e1; exact absurd h c2⟩
  by_cases c3 : (cutRes t).1.size = 0
  · exact ⟨_, start _ (ev_neg c1 (ev_pos c2 (ev_pos c3 (Ev.now _)))), .inl rfl, fun a b n _ ⟨t', e, _, _, h, _⟩ _ _ _ => by rw [ht] at e; injection e with e1 _; subst e1; exact absurd c3 h⟩
  by_cases c4 : (cutRes t).1.size > 18
  · exact ⟨_, start _ (ev_neg c1 (ev_pos c2 (ev_neg c3 (ev_pos c4 (Ev.now _))))), .inl rfl, fun a b n _ ⟨t', e, _, _, _, h, _⟩ _ _ _ => by rw [ht] at e; injection e with e1 _; subst e1; omega⟩
  cases hd : cash_Parse.digits ((cutRes t).1 ++ (cutRes t).2.1).data.toList 0 with
  | none =>
    refine ⟨_, start _ (ev_neg c1 (ev_pos c2 (ev_neg c3 (ev_neg c4 ?_)))), .inl rfl, fun a b n _ ⟨t', e, _, _, _, _, h⟩ _ _ _ => by rw [ht] at e; injection e with e1 _; subst e1; rw [hd] at h; cases h⟩
    rw [hd]; exact Ev.congr (fun k => by rw [cash_Parse.tail]) (Ev.now _)
  | some n =>
    obtain ⟨r, h1, h2, h3⟩ := rest_ev s below n (digits_u64 _ 0 n ⟨by omega, by omega⟩ hd)
    refine ⟨r, start _ (ev_neg c1 (ev_pos c2 (ev_neg c3 (ev_neg c4 ?_)))), h2, ?_⟩
    · rw [hd]; exact Ev.congr (fun k => by rw [cash_Parse.tail]) h1
    · intro a b m ha ⟨t', e, _, _, _, _, h⟩ hb hnb he
      rw [ht] at e; injection e with e1 e2; subst e1 e2; rw [hd] at h; injection h with h; subst h
      exact h3 a ha hb hnb he

/-! ### what is written is read -/
def by8 (l : List Int) : List UInt8 := l.map fun n => UInt8.ofNat n.toNat
theorem by8_append (a b : List Int) : by8 (a ++ b) = by8 a ++ by8 b := List.map_append
theorem toNat_by {c : Int} (h0 : 0 ≤ c) (h1 : c ≤ 255) : ((UInt8.ofNat c.toNat).toNat : Int) = c := by
  rw [UInt8.toNat_ofNat']; omega
theorem digits_step (d : Nat) (hd : d < 10) (l : List UInt8) (n : Int) (h0 : 0 ≤ n) (h1 : n ≤ 1152921504606846976) : cash_Parse.digits (UInt8.ofNat (48 + (d : Int)).toNat :: l) n = cash_Parse.digits l (10 * n + d) := by
  simp only [cash_Parse.digits]
  rw [toNat_by (by omega) (by omega), if_neg (by omega), if_neg (by omega), if_neg (by omega), u64_in (x := 10 * n) (by omega) (by omega), u64_in (by omega) (by omega)]
  congr 1; omega
theorem digits_dg : ∀ (m : Nat) (l : List UInt8), m ≤ 9223372036854775808 → cash_Parse.digits (by8 (dg m) ++ l) 0 = cash_Parse.digits l (m : Int) := by
  intro m
  induction m using Nat.strongRecOn with
  | _ m ih =>
    intro l hm
    rw [dg]
    split
    · rename_i h
      have := digits_step m h l 0 (by omega) (by omega)
      simpa [by8] using this
    · rename_i h
      rw [by8_append, List.append_assoc, ih (m / 10) (by omega) _ (by omega)]
      have := digits_step (m % 10) (by omega) l ((m / 10 : Nat) : Int) (by omega) (by omega)
      have e : (10 * ((m / 10 : Nat) : Int) + ((m % 10 : Nat) : Int)) = (m : Int) := by omega
      rw [e] at this
      simpa [by8] using this
theorem index_dg (m : Nat) (l : List UInt8) : Lib.indexByte (by8 (dg m) ++ 46 :: l) 46 = (dg m).length := by
  have h : ∀ (L : List Int), (∀ c ∈ L, 48 ≤ c ∧ c ≤ 57) → Lib.indexByte (by8 L ++ 46 :: l) 46 = L.length := by
    intro L
    induction L with
    | nil => intro _; simp [by8, Lib.indexByte]
    | cons c L ih =>
      intro hc
      have h1 := hc c (by simp)
      have h2 := ih (fun c h => hc c (by simp [h]))
      have hne : (UInt8.ofNat c.toNat == 46) = false := by
        rw [beq_eq_false_iff_ne]
        intro he
        have := congrArg (fun u : UInt8 => (u.toNat : Int)) he
        simp only [toNat_by (show 0 ≤ c by omega) (by omega)] at this
        simp at this; omega
      show Lib.indexByte (UInt8.ofNat c.toNat :: (by8 L ++ 46 :: l)) 46 = _
      rw [Lib.indexByte, hne, h2]
      simp
  exact h _ (dg_digit m)
theorem showB_data (a : Int) : (showB a).data.toList = by8 (showL a) := rfl

theorem shown_reads {a : Int} (ha : I64 a) : Reads (showB a) (decide (a < 0)) (a.natAbs : Int) := by
  obtain ⟨h0, h1⟩ := ha
  have hW : (dg (a.natAbs / 100)).length ≤ 17 := dg_len 16 _ (by have : (10 : Nat) ^ (16 + 1) = 100000000000000000 := (by decide); omega)
  have hW0 : 0 < (dg (a.natAbs / 100)).length := List.length_pos_iff.2 (dg_ne _)
  -- the text behind the sign
  have ht : ∃ t : ByteArray, (if (showB a).data.toList.head? = some 45 then ((showB a).extract 1 (showB a).size, true) else (showB a, false)) = (t, decide (a < 0)) ∧
      t.data.toList = by8 (dg (a.natAbs / 100)) ++ by8 [46, 48 + ((a.natAbs / 10 % 10 : Nat) : Int), 48 + ((a.natAbs % 10 : Nat) : Int)] := by
    by_cases c : a < 0
    · have hd : (showB a).data.toList = 45 :: (by8 (dg (a.natAbs / 100)) ++ by8 [46, 48 + ((a.natAbs / 10 % 10 : Nat) : Int), 48 + ((a.natAbs % 10 : Nat) : Int)]) := by
        rw [showB_data, showL, if_pos c, by8_append, by8_append]; rfl
      refine ⟨(showB a).extract 1 (showB a).size, ?_, ?_⟩
      · rw [hd, List.head?_cons, if_pos rfl, decide_eq_true c]
      · rw [data_extract, size_eq_length, hd, List.drop_succ_cons, List.drop_zero, List.length_cons, Nat.add_sub_cancel, List.take_length]
    · have hd : (showB a).data.toList = by8 (dg (a.natAbs / 100)) ++ by8 [46, 48 + ((a.natAbs / 10 % 10 : Nat) : Int), 48 + ((a.natAbs % 10 : Nat) : Int)] := by
        rw [showB_data, showL, if_neg c, List.nil_append, by8_append]
      refine ⟨showB a, ?_, hd⟩
      rw [if_neg, decide_eq_false c]
      rw [hd]
      intro he
      cases hg : dg (a.natAbs / 100) with
      | nil => exact dg_ne _ hg
      | cons x l =>
        rw [hg] at he
        have hx := dg_digit (a.natAbs / 100) x (by rw [hg]; simp)
        simp [by8] at he
        have := congrArg (fun u : UInt8 => (u.toNat : Int)) he
        simp only [toNat_by (show 0 ≤ x by omega) (by omega)] at this
        simp at this; omega
  obtain ⟨t, e, hd⟩ := ht
  have hi : Lib.indexByte t.data.toList 46 = (dg (a.natAbs / 100)).length := by rw [hd]; exact index_dg _ _
  have hl8 : (by8 (dg (a.natAbs / 100))).length = (dg (a.natAbs / 100)).length := by simp [by8]
  have hcut : cutRes t = (t.extract 0 (dg (a.natAbs / 100)).length, t.extract ((dg (a.natAbs / 100)).length + 1) t.size, true) := by
    unfold cutRes; rw [hi, if_pos (by omega), Int.toNat_natCast]
  have d1 : (t.extract 0 (dg (a.natAbs / 100)).length).data.toList = by8 (dg (a.natAbs / 100)) := by
    rw [data_extract, hd, List.drop_zero, Nat.sub_zero, ← hl8, List.take_left]
  have d2 : (t.extract ((dg (a.natAbs / 100)).length + 1) t.size).data.toList = by8 [48 + ((a.natAbs / 10 % 10 : Nat) : Int), 48 + ((a.natAbs % 10 : Nat) : Int)] := by
    rw [data_extract, size_eq_length, hd, ← hl8, List.drop_append, List.drop_of_length_le (by omega), List.nil_append]
    simp [by8]
  refine ⟨t, e, ?_, ?_, ?_, ?_, ?_⟩
  · rw [hcut]
  · rw [hcut, size_eq_length, d2]; rfl
  · rw [hcut, size_eq_length, d1, hl8]; omega
  · rw [hcut, size_eq_length, d1, hl8]; omega
  · rw [hcut, data_append, d1, d2, digits_dg _ _ (by omega)]
    have e1 := digits_step (a.natAbs / 10 % 10) (by omega) [UInt8.ofNat (48 + ((a.natAbs % 10 : Nat) : Int)).toNat] ((a.natAbs / 100 : Nat) : Int) (by omega) (by omega)
    have e2 := digits_step (a.natAbs % 10) (by omega) [] (10 * ((a.natAbs / 100 : Nat) : Int) + ((a.natAbs / 10 % 10 : Nat) : Int)) (by omega) (by omega)
    refine e1.trans (e2.trans ?_)
    simp only [cash_Parse.digits]
    congr 1; omega

theorem parse_shown {a : Int} (ha : I64 a) (hs : (showB a).size ≤ 140737488355328) : Ev (fun k => cash_Parse.f k (showB a)) (a, 0) := by
  obtain ⟨r, h1, _, h3⟩ := parse_ev (showB a) hs
  have := h3 a _ _ ha (shown_reads ha) (fun h => by have := of_decide_eq_true h; omega) (fun h => by have := of_decide_eq_false h; omega) rfl
  rw [this] at h1
  exact h1
theorem showB_size {a : Int} (ha : I64 a) : 4 ≤ (showB a).size ∧ (showB a).size ≤ 21 := by
  obtain ⟨h0, h1⟩ := ha
  have hW : (dg (a.natAbs / 100)).length ≤ 17 := dg_len 16 _ (by have : (10 : Nat) ^ (16 + 1) = 100000000000000000 := (by decide); omega)
  have hW0 : 0 < (dg (a.natAbs / 100)).length := List.length_pos_iff.2 (dg_ne _)
  unfold showB showL
  rw [strOfNums_size, List.length_append, List.length_append]
  split <;> simp <;> omega
end Go.Proofs.Ytghpbcfkldbpjaa.CA

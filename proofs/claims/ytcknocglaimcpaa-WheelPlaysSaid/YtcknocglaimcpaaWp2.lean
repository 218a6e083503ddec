/- Timers on wheels, in plain Lean: sorted lists; the wheels beside one list in order. -/
import Derived.Test.YtcknocglaimcpaaWp1
namespace Go.Proofs.Ytcknocglaimcpaa.Wh
/-- Bytes in order. -/
def bl : List UInt8 → List UInt8 → Bool
  | _, [] => false
  | [], _ :: _ => true
  | a :: x, b :: y => decide (a < b) || (a == b && bl x y)
theorem bl_irrefl : ∀ x, bl x x = false
  | [] => rfl
  | a :: x => by
    have := bl_irrefl x
    simp only [bl, this, Bool.and_false, Bool.or_false, decide_eq_false_iff_not]
    exact UInt8.lt_irrefl a
theorem u8_cases (a b : UInt8) : a < b ∨ a = b ∨ b < a := by
  rcases Nat.lt_trichotomy a.toNat b.toNat with h | h | h
  · exact .inl h
  · exact .inr (.inl (UInt8.toNat_inj.1 h))
  · exact .inr (.inr h)
theorem bl_cases : ∀ x y, bl x y = true ∨ x = y ∨ bl y x = true
  | [], [] => .inr (.inl rfl)
  | [], _ :: _ => .inl rfl
  | _ :: _, [] => .inr (.inr rfl)
  | a :: x, b :: y => by
    rcases u8_cases a b with h | rfl | h
    · left; simp [bl, h]
    · rcases bl_cases x y with h | rfl | h
      · left; simp [bl, h]
      · exact .inr (.inl rfl)
      · right; right; simp [bl, h]
    · right; right; simp [bl, h]
theorem bl_trans : ∀ x y z, bl x y = true → bl y z = true → bl x z = true
  | _, _, [], _, h => by simp [bl] at h
  | _, [], _ :: _, h, _ => by simp [bl] at h
  | [], _ :: _, _ :: _, _, _ => rfl
  | a :: x, b :: y, c :: z, h1, h2 => by
    simp only [bl, Bool.or_eq_true, Bool.and_eq_true, decide_eq_true_eq, beq_iff_eq] at *
    rcases h1 with h1 | ⟨rfl, h1⟩
    · rcases h2 with h2 | ⟨rfl, _⟩
      · exact .inl (UInt8.lt_trans h1 h2)
      · exact .inl h1
    · rcases h2 with h2 | ⟨rfl, h2⟩
      · exact .inl h2
      · exact .inr ⟨rfl, bl_trans x y z h1 h2⟩
/-- The order of timers. -/
def tl (a b : Tm) : Prop := a.2 < b.2 ∨ (a.2 = b.2 ∧ bl a.1.data.toList b.1.data.toList = true)
theorem tl_irrefl (a : Tm) : ¬ tl a a := by
  rintro (h | ⟨_, h⟩)
  · omega
  · rw [bl_irrefl] at h; cases h
theorem tl_trans {a b c : Tm} (h1 : tl a b) (h2 : tl b c) : tl a c := by
  unfold tl at *
  rcases h1 with h1 | ⟨e1, h1⟩ <;> rcases h2 with h2 | ⟨e2, h2⟩
  · left; omega
  · left; omega
  · left; omega
  · right; exact ⟨by omega, bl_trans _ _ _ h1 h2⟩
theorem ba_ext {a b : ByteArray} (h : a.data.toList = b.data.toList) : a = b := by
  cases a; cases b; simp at h; simp [h]
theorem tl_cases (a b : Tm) : tl a b ∨ a = b ∨ tl b a := by
  unfold tl
  rcases Int.lt_trichotomy a.2 b.2 with h | h | h
  · exact .inl (.inl h)
  · rcases bl_cases a.1.data.toList b.1.data.toList with h' | h' | h'
    · exact .inl (.inr ⟨h, h'⟩)
    · exact .inr (.inl (Prod.ext (ba_ext h') h))
    · exact .inr (.inr (.inr ⟨h.symm, h'⟩))
  · exact .inr (.inr (.inl h))
def So (l : List Tm) : Prop := l.Pairwise tl
theorem so_eq : ∀ (l m : List Tm), So l → So m → (∀ t, t ∈ l ↔ t ∈ m) → l = m
  | [], [], _, _, _ => rfl
  | [], b :: m, _, _, h => absurd ((h b).2 (List.mem_cons_self ..)) (by simp)
  | a :: l, [], _, _, h => absurd ((h a).1 (List.mem_cons_self ..)) (by simp)
  | a :: l, b :: m, h1, h2, h => by
    have h1' := List.pairwise_cons.1 h1
    have h2' := List.pairwise_cons.1 h2
    have e : a = b := by
      rcases List.mem_cons.1 ((h a).1 (List.mem_cons_self ..)) with e | ha
      · exact e
      rcases List.mem_cons.1 ((h b).2 (List.mem_cons_self ..)) with e | hb
      · exact e.symm
      exact absurd (tl_trans (h1'.1 b hb) (h2'.1 a ha)) (tl_irrefl a)
    subst e
    congr 1
    refine so_eq l m h1'.2 h2'.2 (fun t => ?_)
    constructor
    · intro ht
      rcases List.mem_cons.1 ((h t).1 (List.mem_cons_of_mem _ ht)) with rfl | h'
      · exact absurd (h1'.1 t ht) (tl_irrefl t)
      · exact h'
    · intro ht
      rcases List.mem_cons.1 ((h t).2 (List.mem_cons_of_mem _ ht)) with rfl | h'
      · exact absurd (h2'.1 t ht) (tl_irrefl t)
      · exact h'
theorem so_filter {l : List Tm} (h : So l) (p : Tm → Bool) : So (l.filter p) := List.Pairwise.filter p h
theorem so_nodup {l : List Tm} (h : So l) : l.Nodup := by
  refine List.Pairwise.imp ?_ h
  intro a b h e
  subst e
  exact tl_irrefl _ h
/-! ### the list of the document: a prefix of what is due, a timer put in -/
/-- As many of the first as are due. -/
def pre (to : Int) : List Tm → Nat
  | [] => 0
  | t :: l => if t.2 ≤ to then pre to l + 1 else 0
theorem pre_le (to : Int) : ∀ l, pre to l ≤ l.length
  | [] => Nat.le_refl _
  | t :: l => by unfold pre; split; · have := pre_le to l; simp; omega
                 · exact Nat.zero_le _
theorem pre_take (to : Int) : ∀ l, So l → l.take (pre to l) = l.filter (fun t => decide (t.2 ≤ to)) ∧ l.drop (pre to l) = l.filter (fun t => decide (¬ t.2 ≤ to))
  | [], _ => ⟨rfl, rfl⟩
  | t :: l, h => by
    have h' := List.pairwise_cons.1 h
    have ih := pre_take to l h'.2
    unfold pre
    by_cases e : t.2 ≤ to
    · rw [if_pos e]
      simp [e, ih.1, ih.2]
    · rw [if_neg e]
      have hall : ∀ x ∈ l, ¬ x.2 ≤ to := by
        intro x hx
        rcases h'.1 x hx with h | ⟨h, _⟩ <;> omega
      constructor
      · rw [List.take_zero]
        symm
        rw [List.filter_eq_nil_iff]
        intro x hx
        rcases List.mem_cons.1 hx with rfl | hx
        · simpa using e
        · simpa using hall x hx
      · rw [List.drop_zero]
        symm
        rw [List.filter_eq_self]
        intro x hx
        rcases List.mem_cons.1 hx with rfl | hx
        · simpa using e
        · simpa using hall x hx
/-- How many come ahead of a timer. -/
def ah (t : Tm) : List Tm → Nat
  | [] => 0
  | x :: l => if x.2 < t.2 ∨ (x.2 = t.2 ∧ bl x.1.data.toList t.1.data.toList = true) then ah t l + 1 else 0
theorem ah_le (t : Tm) : ∀ l, ah t l ≤ l.length
  | [] => Nat.le_refl _
  | x :: l => by unfold ah; split; · have := ah_le t l; simp; omega
                 · exact Nat.zero_le _
theorem ins_so (t : Tm) : ∀ l, So l → t ∉ l → So (l.take (ah t l) ++ t :: l.drop (ah t l))
  | [], _, _ => by simp [ah, So]
  | x :: l, h, hn => by
    have h' := List.pairwise_cons.1 h
    unfold ah
    by_cases e : x.2 < t.2 ∨ (x.2 = t.2 ∧ bl x.1.data.toList t.1.data.toList = true)
    · rw [if_pos e]
      have ih := ins_so t l h'.2 (fun hm => hn (List.mem_cons_of_mem _ hm))
      rw [List.take_succ_cons, List.drop_succ_cons, List.cons_append]
      refine List.pairwise_cons.2 ⟨?_, ih⟩
      intro y hy
      rw [List.mem_append] at hy
      rcases hy with hy | hy
      · exact h'.1 y (List.mem_of_mem_take hy)
      · rcases List.mem_cons.1 hy with rfl | hy
        · exact e
        · exact h'.1 y (List.mem_of_mem_drop hy)
    · rw [if_neg e]
      rw [List.take_zero, List.drop_zero, List.nil_append]
      have hx : tl t x := by
        rcases tl_cases t x with h1 | h1 | h1
        · exact h1
        · exact absurd (h1 ▸ List.mem_cons_self ..) hn
        · exact absurd h1 e
      refine List.pairwise_cons.2 ⟨?_, h⟩
      intro y hy
      rcases List.mem_cons.1 hy with rfl | hy
      · exact hx
      · exact tl_trans hx (h'.1 y hy)
theorem ins_mem (t : Tm) (l : List Tm) (n : Nat) (u : Tm) : u ∈ l.take n ++ t :: l.drop n ↔ u = t ∨ u ∈ l := by
  have e : l = l.take n ++ l.drop n := (List.take_append_drop n l).symm
  constructor
  · intro h
    rw [List.mem_append] at h
    rcases h with h | h
    · exact .inr (List.mem_of_mem_take h)
    · rcases List.mem_cons.1 h with h | h
      · exact .inl h
      · exact .inr (List.mem_of_mem_drop h)
  · rintro (rfl | h)
    · simp
    · rw [e, List.mem_append] at h
      rw [List.mem_append]
      rcases h with h | h
      · exact .inl h
      · exact .inr (List.mem_cons_of_mem _ h)
end Go.Proofs.Ytcknocglaimcpaa.Wh

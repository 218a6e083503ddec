/- Timers on wheels, in plain Lean: where a timer lies, and what a tick does. -/
namespace Go.Proofs.Ytcknocglaimcpaa.Wh
abbrev Tm := ByteArray × Int
abbrev Sl := Nat → Nat → List Tm
/-- How long a slot of a wheel is. -/
def sp : Nat → Int
  | 0 => 1
  | 1 => 32
  | 2 => 1024
  | 3 => 32768
  | 4 => 1048576
  | _ => 33554432
/-- The wheel of a timer: the lowest that turns to it before it has gone round. -/
def levG (now a : Int) : Nat → Nat → Nat
  | 0, l => l
  | f + 1, l => if l < 5 ∧ a / sp l - now / sp l ≥ 32 then levG now a f (l + 1) else l
def lev (now a : Int) : Nat := levG now a 5 0
def idx (l : Nat) (a : Int) : Nat := (a / sp l % 32).toNat
def upd (s : Sl) (l k : Nat) (x : List Tm) : Sl := fun i j => if i = l ∧ j = k then x else s i j
def put (now : Int) (s : Sl) (t : Tm) : Sl := upd s (lev now t.2) (idx (lev now t.2) t.2) (s (lev now t.2) (idx (lev now t.2) t.2) ++ [t])
/-- What lies in the slots that begin at a time falls down; from wheel l on. -/
def fall (now : Int) : Nat → Nat → Sl → Sl
  | 0, _, s => s
  | f + 1, l, s => if l < 6 then (if now % sp l = 0 then fall now f (l + 1) ((s l (idx l now)).foldl (put now) (upd s l (idx l now) [])) else s) else s
def flat (s : Sl) : List Tm := (List.range 6).flatMap fun l => (List.range 32).flatMap fun k => s l k
/-! ### lists -/
theorem upd_same (s : Sl) (l k : Nat) (x : List Tm) : upd s l k x l k = x := by simp [upd]
theorem upd_other (s : Sl) (l k : Nat) (x : List Tm) {i j : Nat} (h : ¬ (i = l ∧ j = k)) : upd s l k x i j = s i j := by simp [upd, h]
theorem flatMap_perm {α β : Type} (l : List α) (f g : α → List β) (h : ∀ x ∈ l, (f x).Perm (g x)) : (l.flatMap f).Perm (l.flatMap g) := by
  induction l with
  | nil => exact List.Perm.refl _
  | cons a l ih =>
    rw [List.flatMap_cons, List.flatMap_cons]
    exact (h a (List.mem_cons_self ..)).append (ih (fun x hx => h x (List.mem_cons_of_mem _ hx)))
theorem flatMap_ext {α β : Type} (l : List α) (f g : α → List β) (h : ∀ x ∈ l, f x = g x) : l.flatMap f = l.flatMap g := by
  induction l with
  | nil => rfl
  | cons a l ih => rw [List.flatMap_cons, List.flatMap_cons, h a (List.mem_cons_self ..), ih (fun x hx => h x (List.mem_cons_of_mem _ hx))]
/-- One of a row of lists gets other elements: what it had more, the whole has more. -/
theorem flatMap_one {α β : Type} [DecidableEq α] (l : List α) (hn : l.Nodup) (a : α) (ha : a ∈ l) (f g : α → List β) (y z : List β) (ho : ∀ x ∈ l, x ≠ a → f x = g x) (h : (f a ++ y).Perm (g a ++ z)) : (l.flatMap f ++ y).Perm (l.flatMap g ++ z) := by
  induction l with
  | nil => simp at ha
  | cons b l ih =>
    rw [List.flatMap_cons, List.flatMap_cons]
    have hb : b ∉ l := (List.nodup_cons.1 hn).1
    have hl := (List.nodup_cons.1 hn).2
    by_cases e : b = a
    · subst e
      have e2 : l.flatMap f = l.flatMap g := flatMap_ext l f g (fun x hx => ho x (List.mem_cons_of_mem _ hx) (fun e => hb (e ▸ hx)))
      rw [e2]
      have p1 : ((f b ++ l.flatMap g) ++ y).Perm ((f b ++ y) ++ l.flatMap g) := by
        rw [List.append_assoc, List.append_assoc]; exact List.Perm.append_left _ List.perm_append_comm
      have p2 : ((g b ++ z) ++ l.flatMap g).Perm ((g b ++ l.flatMap g) ++ z) := by
        rw [List.append_assoc, List.append_assoc]; exact List.Perm.append_left _ List.perm_append_comm
      exact p1.trans ((h.append_right _).trans p2)
    · rw [ho b (List.mem_cons_self ..) e, List.append_assoc, List.append_assoc]
      have ha' : a ∈ l := by
        rcases List.mem_cons.1 ha with h' | h'
        · exact absurd h'.symm e
        · exact h'
      exact List.Perm.append_left _ (ih hl ha' (fun x hx => ho x (List.mem_cons_of_mem _ hx)))
theorem flat_upd (s : Sl) (l k : Nat) (hl : l < 6) (hk : k < 32) (x y z : List Tm) (h : (x ++ y).Perm (s l k ++ z)) : (flat (upd s l k x) ++ y).Perm (flat s ++ z) := by
  unfold flat
  refine flatMap_one _ List.nodup_range l (List.mem_range.2 hl) _ _ y z ?_ ?_
  · intro i _ hi
    congr 1
    funext j
    exact upd_other s l k x (fun h => hi h.1)
  · refine flatMap_one _ List.nodup_range k (List.mem_range.2 hk) _ _ y z ?_ ?_
    · intro j _ hj
      exact upd_other s l k x (fun h => hj h.2)
    · rw [upd_same]
      exact h
theorem mem_flat (s : Sl) (t : Tm) : t ∈ flat s ↔ ∃ l k, l < 6 ∧ k < 32 ∧ t ∈ s l k := by
  unfold flat
  simp only [List.mem_flatMap, List.mem_range]
  constructor
  · rintro ⟨l, hl, k, hk, h⟩; exact ⟨l, k, hl, hk, h⟩
  · rintro ⟨l, k, hl, hk, h⟩; exact ⟨l, hl, k, hk, h⟩
theorem flat_filter (s : Sl) (p : Tm → Bool) : flat (fun l k => (s l k).filter p) = (flat s).filter p := by
  unfold flat
  rw [List.filter_flatMap]
  congr 1
  funext l
  simp only []
  rw [List.filter_flatMap]
/-! ### where a timer lies -/
theorem lev_lt (now a : Int) : lev now a < 6 := by
  unfold lev
  simp only [levG]
  repeat' split
  all_goals omega
theorem idx_lt (l : Nat) (a : Int) : idx l a < 32 := by unfold idx; omega
/-- A timer may lie there. -/
def pl (now : Int) (l : Nat) (a : Int) : Prop := now ≤ a ∧ a / sp l - now / sp l < 32 ∧ (l = 0 ∨ now / sp l < a / sp l)
theorem lev_is (now a : Int) : (lev now a = 0 ∧ a - now < 32) ∨ (lev now a = 1 ∧ 32 ≤ a - now ∧ a / 32 - now / 32 < 32) ∨ (lev now a = 2 ∧ 32 ≤ a / 32 - now / 32 ∧ a / 1024 - now / 1024 < 32) ∨ (lev now a = 3 ∧ 32 ≤ a / 1024 - now / 1024 ∧ a / 32768 - now / 32768 < 32) ∨ (lev now a = 4 ∧ 32 ≤ a / 32768 - now / 32768 ∧ a / 1048576 - now / 1048576 < 32) ∨ (lev now a = 5 ∧ 32 ≤ a / 1048576 - now / 1048576) := by
  have e1 : ∀ x : Int, x / sp 0 = x := fun x => by simp [sp]
  have e2 : ∀ x : Int, x / sp (0 + 1) = x / 32 := fun x => rfl
  have e3 : ∀ x : Int, x / sp (0 + 1 + 1) = x / 1024 := fun x => rfl
  have e4 : ∀ x : Int, x / sp (0 + 1 + 1 + 1) = x / 32768 := fun x => rfl
  have e5 : ∀ x : Int, x / sp (0 + 1 + 1 + 1 + 1) = x / 1048576 := fun x => rfl
  unfold lev
  simp only [levG, e1, e2, e3, e4, e5]
  by_cases h1 : a - now ≥ 32
  · rw [if_pos ⟨by omega, h1⟩]
    by_cases h2 : a / 32 - now / 32 ≥ 32
    · rw [if_pos ⟨by omega, h2⟩]
      by_cases h3 : a / 1024 - now / 1024 ≥ 32
      · rw [if_pos ⟨by omega, h3⟩]
        by_cases h4 : a / 32768 - now / 32768 ≥ 32
        · rw [if_pos ⟨by omega, h4⟩]
          by_cases h5 : a / 1048576 - now / 1048576 ≥ 32
          · rw [if_pos ⟨by omega, h5⟩]; omega
          · rw [if_neg (fun h => h5 h.2)]; omega
        · rw [if_neg (fun h => h4 h.2)]; omega
      · rw [if_neg (fun h => h3 h.2)]; omega
    · rw [if_neg (fun h => h2 h.2)]; omega
  · rw [if_neg (fun h => h1 h.2)]; omega
theorem lev_pl (now a : Int) (h0 : 0 ≤ now) (h1 : now ≤ a) (h2 : a ≤ 1000000000) : pl now (lev now a) a := by
  unfold pl
  rcases lev_is now a with ⟨e, h⟩ | ⟨e, h⟩ | ⟨e, h⟩ | ⟨e, h⟩ | ⟨e, h⟩ | ⟨e, h⟩
  all_goals rw [e]
  all_goals simp only [sp, Int.ediv_one, true_or, and_true]
  all_goals omega
/-- A timer whose slot of wheel l begins now lies lower. -/
theorem lev_low (now a : Int) (l : Nat) (hl : 0 < l) (hl6 : l < 6) (h0 : 0 ≤ now) (h1 : now ≤ a) (hm : now % sp l = 0) (he : a / sp l = now / sp l) : lev now a < l := by
  have hl : l = 1 ∨ l = 2 ∨ l = 3 ∨ l = 4 ∨ l = 5 := by omega
  rcases hl with rfl | rfl | rfl | rfl | rfl
  all_goals simp only [sp] at hm he
  all_goals rcases lev_is now a with ⟨e, h⟩ | ⟨e, h⟩ | ⟨e, h⟩ | ⟨e, h⟩ | ⟨e, h⟩ | ⟨e, h⟩
  all_goals omega
/-! ### falling -/
theorem put_mem (now : Int) (s : Sl) (t u : Tm) (l k : Nat) (h : u ∈ put now s t l k) : u ∈ s l k ∨ (u = t ∧ l = lev now t.2 ∧ k = idx (lev now t.2) t.2) := by
  unfold put at h
  by_cases e : l = lev now t.2 ∧ k = idx (lev now t.2) t.2
  · obtain ⟨rfl, rfl⟩ := e
    rw [upd_same, List.mem_append, List.mem_singleton] at h
    rcases h with h | h
    · exact .inl h
    · exact .inr ⟨h, rfl, rfl⟩
  · rw [upd_other _ _ _ _ e] at h
    exact .inl h
theorem puts_mem (now : Int) : ∀ (x : List Tm) (s : Sl) (u : Tm) (l k : Nat), u ∈ x.foldl (put now) s l k → u ∈ s l k ∨ (u ∈ x ∧ l = lev now u.2 ∧ k = idx (lev now u.2) u.2)
  | [], s, u, l, k, h => .inl h
  | t :: x, s, u, l, k, h => by
    rcases puts_mem now x (put now s t) u l k h with h | ⟨h, e⟩
    · rcases put_mem now s t u l k h with h | ⟨rfl, e⟩
      · exact .inl h
      · exact .inr ⟨List.mem_cons_self .., e⟩
    · exact .inr ⟨List.mem_cons_of_mem _ h, e⟩
theorem put_flat (now : Int) (s : Sl) (t : Tm) : (flat (put now s t)).Perm (flat s ++ [t]) := by
  have := flat_upd s (lev now t.2) (idx (lev now t.2) t.2) (lev_lt _ _) (idx_lt _ _) (s (lev now t.2) (idx (lev now t.2) t.2) ++ [t]) [] [t] (by rw [List.append_nil])
  rw [List.append_nil] at this
  exact this
theorem puts_flat (now : Int) : ∀ (x : List Tm) (s : Sl), (flat (x.foldl (put now) s)).Perm (flat s ++ x)
  | [], s => by rw [List.append_nil]; exact List.Perm.refl _
  | t :: x, s => by
    have h1 := puts_flat now x (put now s t)
    have h2 := (put_flat now s t).append_right x
    rw [List.append_assoc] at h2
    exact h1.trans h2
/-- Timers of the wheels from lo on lie as they did before the tick. -/
def G (now : Int) (lo : Nat) (s : Sl) : Prop := ∀ l k t, l < 6 → k < 32 → t ∈ s l k → now ≤ t.2 ∧ t.2 ≤ 1000000000 ∧ k = idx l t.2 ∧ (l < lo → pl now l t.2) ∧ (lo ≤ l → pl (now - 1) l t.2)
theorem fall_ok (now : Int) (h0 : 1 ≤ now) : ∀ (f l : Nat) (s : Sl), f + l = 6 → 1 ≤ l → G now l s → G now 6 (fall now f l s) ∧ (flat (fall now f l s)).Perm (flat s)
  | 0, l, s, hf, hl, hG => by
    obtain rfl : l = 6 := by omega
    exact ⟨hG, List.Perm.refl _⟩
  | f + 1, l, s, hf, hl, hG => by
    unfold fall
    rw [if_pos (by omega)]
    have hcs : l = 1 ∨ l = 2 ∨ l = 3 ∨ l = 4 ∨ l = 5 := by omega
    by_cases hm : now % sp l = 0
    · rw [if_pos hm]
      have hx : ∀ t ∈ s l (idx l now), now ≤ t.2 ∧ t.2 ≤ 1000000000 ∧ t.2 / sp l = now / sp l := by
        intro t ht
        obtain ⟨g1, g2, g3, _, g5⟩ := hG l (idx l now) t (by omega) (idx_lt _ _) ht
        refine ⟨g1, g2, ?_⟩
        have g5 := g5 (Nat.le_refl _)
        unfold pl at g5
        unfold idx at g3
        rcases hcs with rfl | rfl | rfl | rfl | rfl
        all_goals simp only [sp] at *
        all_goals omega
      have hG1 : G now (l + 1) ((s l (idx l now)).foldl (put now) (upd s l (idx l now) [])) := by
        intro i k t hi hk ht
        rcases puts_mem now _ _ t i k ht with h | ⟨h, rfl, rfl⟩
        · by_cases e : i = l ∧ k = idx l now
          · obtain ⟨rfl, rfl⟩ := e
            rw [upd_same] at h
            exact absurd h (by simp)
          · rw [upd_other _ _ _ _ e] at h
            obtain ⟨g1, g2, g3, g4, g5⟩ := hG i k t hi hk h
            refine ⟨g1, g2, g3, fun hlt => ?_, fun hle => g5 (by omega)⟩
            by_cases e2 : i < l
            · exact g4 e2
            · obtain rfl : i = l := by omega
              have g5 := g5 (Nat.le_refl _)
              have hne : k ≠ idx i now := fun h => e ⟨rfl, h⟩
              unfold pl at g5 ⊢
              unfold idx at g3 hne
              rcases hcs with rfl | rfl | rfl | rfl | rfl
              all_goals simp only [sp] at *
              all_goals omega
        · obtain ⟨g1, g2, g3⟩ := hx t h
          have hlow := lev_low now t.2 l (by omega) (by omega) (by omega) g1 hm g3
          exact ⟨g1, g2, rfl, fun _ => lev_pl now t.2 (by omega) g1 g2, fun hle => absurd hle (by omega)⟩
      obtain ⟨r1, r2⟩ := fall_ok now h0 f (l + 1) _ (by omega) (by omega) hG1
      refine ⟨r1, r2.trans ?_⟩
      have p1 := puts_flat now (s l (idx l now)) (upd s l (idx l now) [])
      have p2 := flat_upd s l (idx l now) (by omega) (idx_lt _ _) [] (s l (idx l now)) [] (by simp)
      rw [List.append_nil] at p2
      exact p1.trans p2
    · rw [if_neg hm]
      refine ⟨?_, List.Perm.refl _⟩
      intro i k t hi hk ht
      obtain ⟨g1, g2, g3, g4, g5⟩ := hG i k t hi hk ht
      refine ⟨g1, g2, g3, fun _ => ?_, fun hle => absurd hle (by omega)⟩
      by_cases e2 : i < l
      · exact g4 e2
      · have g5 := g5 (by omega)
        have hi2 : i = 1 ∨ i = 2 ∨ i = 3 ∨ i = 4 ∨ i = 5 := by omega
        unfold pl at g5 ⊢
        rcases hcs with rfl | rfl | rfl | rfl | rfl <;> rcases hi2 with rfl | rfl | rfl | rfl | rfl
        all_goals simp only [sp] at *
        all_goals omega
/-- Each timer lies where it may, and is later than now. -/
def Inv (now : Int) (s : Sl) : Prop := ∀ l k t, l < 6 → k < 32 → t ∈ s l k → now < t.2 ∧ t.2 ≤ 1000000000 ∧ k = idx l t.2 ∧ pl now l t.2
theorem tick_ok (now : Int) (h0 : 0 ≤ now) (s : Sl) (h : Inv now s) :
    Inv (now + 1) (upd (fall (now + 1) 5 1 s) 0 (idx 0 (now + 1)) []) ∧ (∀ t ∈ fall (now + 1) 5 1 s 0 (idx 0 (now + 1)), t.2 = now + 1) ∧
      (flat (upd (fall (now + 1) 5 1 s) 0 (idx 0 (now + 1)) []) ++ fall (now + 1) 5 1 s 0 (idx 0 (now + 1))).Perm (flat s) := by
  have hG : G (now + 1) 1 s := by
    intro l k t hl hk ht
    obtain ⟨g1, g2, g3, g4⟩ := h l k t hl hk ht
    refine ⟨by omega, g2, g3, fun hlt => ?_, fun _ => by rw [show now + 1 - 1 = now by omega]; exact g4⟩
    obtain rfl : l = 0 := by omega
    unfold pl at g4 ⊢
    simp only [sp, Int.ediv_one, true_or, and_true] at g4 ⊢
    omega
  obtain ⟨r1, r2⟩ := fall_ok (now + 1) (by omega) 5 1 s rfl (by omega) hG
  have hout : ∀ t ∈ fall (now + 1) 5 1 s 0 (idx 0 (now + 1)), t.2 = now + 1 := by
    intro t ht
    obtain ⟨g1, g2, g3, g4, _⟩ := r1 0 _ t (by omega) (idx_lt _ _) ht
    have g4 := g4 (by omega)
    unfold pl at g4
    unfold idx at g3
    simp only [sp, Int.ediv_one, true_or, and_true] at *
    omega
  refine ⟨?_, hout, ?_⟩
  · intro l k t hl hk ht
    by_cases e : l = 0 ∧ k = idx 0 (now + 1)
    · obtain ⟨rfl, rfl⟩ := e
      rw [upd_same] at ht
      exact absurd ht (by simp)
    · rw [upd_other _ _ _ _ e] at ht
      obtain ⟨g1, g2, g3, g4, _⟩ := r1 l k t hl hk ht
      have g4 := g4 hl
      refine ⟨?_, g2, g3, g4⟩
      by_cases e2 : l = 0
      · subst e2
        have hne : k ≠ idx 0 (now + 1) := fun h => e ⟨rfl, h⟩
        unfold idx at g3 hne
        simp only [sp, Int.ediv_one, true_or, and_true] at *
        omega
      · unfold pl at g4
        have hi2 : l = 1 ∨ l = 2 ∨ l = 3 ∨ l = 4 ∨ l = 5 := by omega
        rcases hi2 with rfl | rfl | rfl | rfl | rfl
        all_goals simp only [sp] at *
        all_goals omega
  · have p2 := flat_upd (fall (now + 1) 5 1 s) 0 (idx 0 (now + 1)) (by omega) (idx_lt _ _) [] (fall (now + 1) 5 1 s 0 (idx 0 (now + 1))) [] (by simp)
    rw [List.append_nil] at p2
    exact p2.trans r2
end Go.Proofs.Ytcknocglaimcpaa.Wh

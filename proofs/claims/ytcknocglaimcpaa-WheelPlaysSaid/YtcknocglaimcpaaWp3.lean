/- Timers on wheels, in plain Lean: each call, beside one list in order. -/
import Derived.Test.YtcknocglaimcpaaWp2
namespace Go.Proofs.Ytcknocglaimcpaa.Wh
structure St where
  now : Int
  due : ByteArray → Option Int
  cnt : Nat
  slot : Sl
def far : Int := 1000000000
def newS (now : Int) : St := ⟨now, fun _ => none, 0, fun _ _ => []⟩
def dropS (s : St) (key : ByteArray) : St :=
  match s.due key with
  | none => s
  | some a => { s with due := fun k => if k = key then none else s.due k, cnt := s.cnt - 1, slot := fun l k => (s.slot l k).filter (fun t => !decide (t = (key, a))) }
def setOk (s : St) (key : ByteArray) (a : Int) : St :=
  let d := dropS s key
  { d with due := fun k => if k = key then some a else d.due k, cnt := d.cnt + 1, slot := put s.now d.slot (key, a) }
def setE (s : St) (key : ByteArray) (a : Int) : Int :=
  if key.size = 0 ∨ key.size > 100 ∨ a > far then 2 else if a ≤ s.now then 110 else if s.due key = none ∧ s.cnt ≥ 200 then 3 else 0
def setS (s : St) (key : ByteArray) (a : Int) : St := if setE s key a = 0 ∧ s.due key ≠ some a then setOk s key a else s
def sortT : List Tm → List Tm
  | [] => []
  | t :: l => (sortT l).take (ah t (sortT l)) ++ t :: (sortT l).drop (ah t (sortT l))
def hasK (o : List Tm) (k : ByteArray) : Bool := o.any fun t => decide (t.1 = k)
theorem hasK_iff (o : List Tm) (k : ByteArray) : hasK o k = true ↔ ∃ u ∈ o, u.1 = k := by
  unfold hasK
  simp [List.any_eq_true]
def tickO (s : St) : List Tm := if s.now ≥ far then [] else sortT (fall (s.now + 1) 5 1 s.slot 0 (idx 0 (s.now + 1)))
def tickS (s : St) : St :=
  if s.now ≥ far then s else
  let f := fall (s.now + 1) 5 1 s.slot
  let o := f 0 (idx 0 (s.now + 1))
  { now := s.now + 1, due := fun k => if hasK o k = true then none else s.due k, cnt := s.cnt - o.length, slot := upd f 0 (idx 0 (s.now + 1)) [] }
def skipS : Nat → St → St
  | 0, s => s
  | n + 1, s => skipS n (tickS s)
def skipO : Nat → St → List Tm
  | 0, _ => []
  | n + 1, s => tickO s ++ skipO n (tickS s)
/-- The wheels have what the list has. -/
structure Rel (s : St) (L : List Tm) : Prop where
  lo : 0 ≤ s.now
  hi : s.now ≤ far
  inv : Inv s.now s.slot
  so : So L
  fl : (flat s.slot).Perm L
  du : ∀ k a, s.due k = some a ↔ (k, a) ∈ L
  ct : s.cnt = L.length
theorem Rel.one {s : St} {L : List Tm} (h : Rel s L) {k : ByteArray} {a b : Int} (h1 : (k, a) ∈ L) (h2 : (k, b) ∈ L) : a = b := by
  have e1 := (h.du k a).2 h1
  have e2 := (h.du k b).2 h2
  rw [e1] at e2
  exact Option.some.inj e2
theorem Rel.later {s : St} {L : List Tm} (h : Rel s L) {t : Tm} (ht : t ∈ L) : s.now < t.2 ∧ t.2 ≤ far := by
  have := h.fl.mem_iff.2 ht
  obtain ⟨l, k, hl, hk, hm⟩ := (mem_flat _ _).1 this
  obtain ⟨h1, h2, _, _⟩ := h.inv l k t hl hk hm
  exact ⟨h1, h2⟩
theorem flat_nil : flat (fun _ _ => []) = [] := by
  unfold flat
  simp
theorem rel_new (now : Int) (h0 : 0 ≤ now) (h1 : now ≤ far) : Rel (newS now) [] :=
  ⟨h0, h1, fun l k t _ _ ht => absurd ht (by simp [newS]), List.Pairwise.nil, by rw [show (newS now).slot = fun _ _ => [] from rfl, flat_nil], fun k a => by simp [newS], rfl⟩
/-! ### Drop -/
theorem filter_key {s : St} {L : List Tm} (h : Rel s L) {key : ByteArray} {a : Int} (hk : s.due key = some a) : L.filter (fun t => !decide (t = (key, a))) = L.filter (fun t => !decide (t.1 = key)) := by
  apply List.filter_congr
  intro t ht
  congr 1
  rw [decide_eq_decide]
  constructor
  · rintro rfl; rfl
  · intro e
    obtain ⟨k, b⟩ := t
    have e : k = key := e
    subst e
    rw [h.one ht ((h.du k a).1 hk)]
theorem filter_none {s : St} {L : List Tm} (h : Rel s L) {key : ByteArray} (hk : s.due key = none) : L.filter (fun t => !decide (t.1 = key)) = L := by
  rw [List.filter_eq_self]
  intro t ht
  have : ¬ t.1 = key := by
    intro e
    have := (h.du t.1 t.2).2 ht
    rw [e, hk] at this
    cases this
  simpa using this
theorem length_one {L : List Tm} (hn : L.Nodup) {t : Tm} (ht : t ∈ L) : (L.filter (fun u => !decide (u = t))).length = L.length - 1 := by
  induction L with
  | nil => simp at ht
  | cons b L ih =>
    have hb := List.nodup_cons.1 hn
    by_cases e : b = t
    · subst e
      have : L.filter (fun u => !decide (u = b)) = L := by
        rw [List.filter_eq_self]
        intro x hx
        have : ¬ x = b := fun e => hb.1 (e ▸ hx)
        simpa using this
      simp [this]
    · have ht' : t ∈ L := by
        rcases List.mem_cons.1 ht with h | h
        · exact absurd h.symm e
        · exact h
      have := ih hb.2 ht'
      have hp : 0 < L.length := List.length_pos_of_mem ht'
      simp [e, this]
      omega
theorem rel_drop {s : St} {L : List Tm} (h : Rel s L) (key : ByteArray) : Rel (dropS s key) (L.filter (fun t => !decide (t.1 = key))) := by
  unfold dropS
  cases hk : s.due key with
  | none => rw [filter_none h hk]; exact h
  | some a =>
    have e := filter_key h hk
    refine ⟨h.lo, h.hi, ?_, so_filter h.so _, ?_, ?_, ?_⟩
    · intro l k t hl hk' ht
      exact h.inv l k t hl hk' (List.mem_filter.1 ht).1
    · show (flat fun l k => (s.slot l k).filter _).Perm _
      rw [flat_filter, ← e]
      exact h.fl.filter _
    · intro k b
      show (if k = key then none else s.due k) = some b ↔ _
      by_cases e2 : k = key
      · rw [if_pos e2]; simp [e2]
      · rw [if_neg e2, List.mem_filter]
        simp [e2, h.du k b]
    · show s.cnt - 1 = _
      rw [← e, length_one (so_nodup h.so) ((h.du key a).1 hk), h.ct]
/-! ### Set -/
theorem rel_setOk {s : St} {L : List Tm} (h : Rel s L) (key : ByteArray) (a : Int) (h1 : s.now < a) (h2 : a ≤ far) :
    Rel (setOk s key a) ((L.filter (fun t => !decide (t.1 = key))).take (ah (key, a) (L.filter (fun t => !decide (t.1 = key)))) ++ (key, a) :: (L.filter (fun t => !decide (t.1 = key))).drop (ah (key, a) (L.filter (fun t => !decide (t.1 = key))))) := by
  have hd := rel_drop h key
  have hn : (dropS s key).now = s.now := by unfold dropS; cases s.due key <;> rfl
  generalize hM : L.filter (fun t => !decide (t.1 = key)) = M at hd ⊢
  have hnk : ∀ t ∈ M, t.1 ≠ key := by
    intro t ht
    rw [← hM, List.mem_filter] at ht
    simpa using ht.2
  have hnm : (key, a) ∉ M := fun hm => hnk _ hm rfl
  refine ⟨by show 0 ≤ (dropS s key).now; rw [hn]; exact h.lo, by show (dropS s key).now ≤ far; rw [hn]; exact h.hi, ?_, ins_so _ _ hd.so hnm, ?_, ?_, ?_⟩
  · intro l k t hl hk ht
    have ht : t ∈ put s.now (dropS s key).slot (key, a) l k := ht
    show (dropS s key).now < t.2 ∧ t.2 ≤ 1000000000 ∧ k = idx l t.2 ∧ pl (dropS s key).now l t.2
    rcases put_mem _ _ _ _ _ _ ht with ht | ⟨rfl, rfl, rfl⟩
    · exact hd.inv l k t hl hk ht
    · rw [hn]
      exact ⟨h1, h2, rfl, lev_pl _ _ h.lo (by show s.now ≤ a; omega) h2⟩
  · refine (put_flat _ _ _).trans ?_
    refine (List.Perm.append_right _ hd.fl).trans ?_
    refine List.perm_append_comm.trans ?_
    have e : M = M.take (ah (key, a) M) ++ M.drop (ah (key, a) M) := (List.take_append_drop _ _).symm
    conv => lhs; rw [e]
    show ((key, a) :: (M.take (ah (key, a) M) ++ M.drop (ah (key, a) M))).Perm _
    exact List.perm_middle.symm
  · intro k b
    show (if k = key then some a else (dropS s key).due k) = some b ↔ _
    rw [ins_mem]
    by_cases e : k = key
    · rw [if_pos e]
      subst e
      constructor
      · intro h; left; rw [Option.some.inj h]
      · rintro (h | h)
        · rw [(Prod.mk.inj h).2]
        · exact absurd rfl (hnk _ h)
    · rw [if_neg e, hd.du k b]
      constructor
      · exact .inr
      · rintro (h | h)
        · exact absurd (Prod.mk.inj h).1 e
        · exact h
  · show (dropS s key).cnt + 1 = _
    rw [hd.ct, List.length_append, List.length_cons, List.length_take, List.length_drop]
    have := ah_le (key, a) M
    omega
/-- A timer set as it was stays where it was. -/
theorem set_same {s : St} {L : List Tm} (h : Rel s L) {key : ByteArray} {a : Int} (hk : s.due key = some a) :
    (L.filter (fun t => !decide (t.1 = key))).take (ah (key, a) (L.filter (fun t => !decide (t.1 = key)))) ++ (key, a) :: (L.filter (fun t => !decide (t.1 = key))).drop (ah (key, a) (L.filter (fun t => !decide (t.1 = key)))) = L := by
  have hm := (h.du key a).1 hk
  refine so_eq _ _ (ins_so _ _ (so_filter h.so _) ?_) h.so ?_
  · rw [List.mem_filter]; simp
  · intro t
    rw [ins_mem, List.mem_filter]
    constructor
    · rintro (rfl | h')
      · exact hm
      · exact h'.1
    · intro ht
      by_cases e : t.1 = key
      · left
        obtain ⟨k, b⟩ := t
        have e : k = key := e
        subst e
        rw [h.one ht hm]
      · exact .inr ⟨ht, by simpa using e⟩
/-! ### Tick, Skip -/
theorem sortT_mem : ∀ (l : List Tm) (t : Tm), t ∈ sortT l ↔ t ∈ l
  | [], t => Iff.rfl
  | u :: l, t => by
    unfold sortT
    rw [ins_mem, sortT_mem l t, List.mem_cons]
theorem sortT_so : ∀ (l : List Tm), l.Nodup → So (sortT l)
  | [], _ => List.Pairwise.nil
  | u :: l, h => by
    have h' := List.nodup_cons.1 h
    exact ins_so u (sortT l) (sortT_so l h'.2) (fun hm => h'.1 ((sortT_mem l u).1 hm))
theorem filter_split {L : List Tm} (p : Tm → Bool) : (L.filter (fun t => !p t) ++ L.filter p).Perm L := by
  refine List.perm_append_comm.trans ?_
  exact List.filter_append_perm p L
theorem rel_tick {s : St} {L : List Tm} (h : Rel s L) (hf : s.now < far) :
    Rel (tickS s) (L.drop (pre (s.now + 1) L)) ∧ tickO s = L.take (pre (s.now + 1) L) ∧ (tickS s).now = s.now + 1 := by
  obtain ⟨t1, t2, t3⟩ := tick_ok s.now h.lo s.slot h.inv
  have hp := pre_take (s.now + 1) L h.so
  generalize hO : fall (s.now + 1) 5 1 s.slot 0 (idx 0 (s.now + 1)) = o at t2 t3
  generalize hF : upd (fall (s.now + 1) 5 1 s.slot) 0 (idx 0 (s.now + 1)) [] = f at t1 t3
  have eS : tickS s = { now := s.now + 1, due := fun k => if hasK o k = true then none else s.due k, cnt := s.cnt - o.length, slot := f } := by
    unfold tickS
    rw [if_neg (by omega)]
    simp only [hO, hF]
  have eO : tickO s = sortT o := by
    unfold tickO
    rw [if_neg (by omega), hO]
  have hall := t3.trans h.fl
  have hNd : (flat f ++ o).Nodup := hall.nodup_iff.2 (so_nodup h.so)
  have hmo : ∀ t, t ∈ o ↔ t ∈ L ∧ t.2 ≤ s.now + 1 := by
    intro t
    constructor
    · intro ht
      exact ⟨hall.mem_iff.1 (List.mem_append.2 (.inr ht)), by have := t2 t ht; omega⟩
    · rintro ⟨ht, hle⟩
      rcases List.mem_append.1 (hall.mem_iff.2 ht) with h' | h'
      · obtain ⟨l, k, hl, hk, hm⟩ := (mem_flat _ _).1 h'
        have := (t1 l k t hl hk hm).1
        omega
      · exact h'
  have eO2 : tickO s = L.take (pre (s.now + 1) L) := by
    rw [eO, hp.1]
    refine so_eq _ _ (sortT_so _ (List.nodup_append.1 hNd).2.1) (so_filter h.so _) ?_
    intro t
    rw [sortT_mem, hmo, List.mem_filter]
    simp
  have hfl : (flat f).Perm (L.filter (fun t => decide (¬ t.2 ≤ s.now + 1))) := by
    have h1 := hall.filter (fun t => decide (¬ t.2 ≤ s.now + 1))
    rw [List.filter_append] at h1
    have e1 : (flat f).filter (fun t => decide (¬ t.2 ≤ s.now + 1)) = flat f := by
      rw [List.filter_eq_self]
      intro t ht
      obtain ⟨l, k, hl, hk, hm⟩ := (mem_flat _ _).1 ht
      have := (t1 l k t hl hk hm).1
      simp
      omega
    have e2 : o.filter (fun t => decide (¬ t.2 ≤ s.now + 1)) = [] := by
      rw [List.filter_eq_nil_iff]
      intro t ht
      have := t2 t ht
      simp
      omega
    rw [e1, e2, List.append_nil] at h1
    exact h1
  refine ⟨?_, eO2, by rw [eS]⟩
  rw [eS, hp.2]
  refine ⟨by show 0 ≤ s.now + 1; have := h.lo; omega, by show s.now + 1 ≤ far; omega, t1, so_filter h.so _, hfl, ?_, ?_⟩
  · intro k a
    show (if hasK o k = true then none else s.due k) = some a ↔ _
    rw [List.mem_filter]
    by_cases e : hasK o k = true
    · rw [if_pos e]
      obtain ⟨u, hu, rfl⟩ := (hasK_iff _ _).1 e
      constructor
      · intro h; cases h
      · rintro ⟨hm, hd⟩
        have hu2 := (hmo u).1 hu
        have := h.one (k := u.1) hm hu2.1
        simp at hd
        omega
    · rw [if_neg e, h.du k a]
      constructor
      · intro hm
        refine ⟨hm, ?_⟩
        simp only [decide_eq_true_eq]
        intro hle
        exact e ((hasK_iff _ _).2 ⟨(k, a), (hmo _).2 ⟨hm, hle⟩, rfl⟩)
      · exact fun h => h.1
  · show s.cnt - o.length = _
    have l1 := hall.length_eq
    have l2 := hfl.length_eq
    rw [List.length_append] at l1
    rw [h.ct, ← l2]
    omega
theorem take_pre {L : List Tm} (h : So L) (a b : Int) (hab : a ≤ b) : L.take (pre a L) ++ (L.drop (pre a L)).take (pre b (L.drop (pre a L))) = L.take (pre b L) ∧ (L.drop (pre a L)).drop (pre b (L.drop (pre a L))) = L.drop (pre b L) := by
  have ha := pre_take a L h
  have hb := pre_take b L h
  have hd : So (L.drop (pre a L)) := by rw [ha.2]; exact so_filter h _
  have hc := pre_take b _ hd
  rw [hc.1, hc.2, hb.1, hb.2]
  constructor
  · refine so_eq _ _ ?_ (so_filter h _) ?_
    · rw [ha.1, ha.2]
      refine List.pairwise_append.2 ⟨so_filter h _, so_filter (so_filter h _) _, ?_⟩
      intro x hx y hy
      rw [List.mem_filter] at hx hy
      rw [List.mem_filter] at hy
      simp at hx hy
      left; omega
    · intro t
      rw [ha.1, ha.2, List.mem_append, List.mem_filter, List.mem_filter, List.mem_filter, List.mem_filter]
      simp only [decide_eq_true_eq]
      constructor
      · rintro (⟨h1, h2⟩ | ⟨⟨h1, _⟩, h2⟩)
        · exact ⟨h1, by omega⟩
        · exact ⟨h1, h2⟩
      · rintro ⟨h1, h2⟩
        by_cases e : t.2 ≤ a
        · exact .inl ⟨h1, e⟩
        · exact .inr ⟨⟨h1, e⟩, h2⟩
  · rw [ha.2, List.filter_filter]
    apply List.filter_congr
    intro t _
    rw [← Bool.decide_and, decide_eq_decide]
    omega
theorem pre_none {L : List Tm} (h : So L) (a : Int) (hl : ∀ t ∈ L, a < t.2) : pre a L = 0 := by
  cases L with
  | nil => rfl
  | cons t L =>
    have := hl t (List.mem_cons_self ..)
    unfold pre
    rw [if_neg (by omega)]
theorem rel_skip : ∀ (n : Nat) {s : St} {L : List Tm}, Rel s L →
    Rel (skipS n s) (L.drop (pre (min (s.now + n) far) L)) ∧ skipO n s = L.take (pre (min (s.now + n) far) L) ∧ (skipS n s).now = min (s.now + n) far
  | 0, s, L, h => by
    have e : min (s.now + ((0 : Nat) : Int)) far = s.now := by have := h.hi; omega
    rw [e, pre_none h.so s.now (fun t ht => (h.later ht).1)]
    exact ⟨by rw [List.drop_zero]; exact h, by rw [List.take_zero]; rfl, rfl⟩
  | n + 1, s, L, h => by
    unfold skipS skipO
    by_cases hf : s.now < far
    · obtain ⟨r1, r2, r3⟩ := rel_tick h hf
      obtain ⟨q1, q2, q3⟩ := rel_skip n r1
      rw [r3] at q1 q2 q3
      have e : min (s.now + 1 + (n : Int)) far = min (s.now + ((n + 1 : Nat) : Int)) far := by congr 1; omega
      rw [e] at q1 q2 q3
      have hle : s.now + 1 ≤ min (s.now + ((n + 1 : Nat) : Int)) far := by omega
      obtain ⟨p1, p2⟩ := take_pre h.so _ _ hle
      exact ⟨by rw [← p2]; exact q1, by rw [r2, q2]; exact p1, q3⟩
    · have hfar : s.now = far := by have := h.hi; omega
      have e1 : tickS s = s := by unfold tickS; rw [if_pos (by omega)]
      have e2 : tickO s = [] := by unfold tickO; rw [if_pos (by omega)]
      obtain ⟨q1, q2, q3⟩ := rel_skip n h
      have e : min (s.now + (n : Int)) far = min (s.now + ((n + 1 : Nat) : Int)) far := by omega
      rw [e] at q1 q2 q3
      rw [e1, e2]
      exact ⟨q1, q2, q3⟩
end Go.Proofs.Ytcknocglaimcpaa.Wh

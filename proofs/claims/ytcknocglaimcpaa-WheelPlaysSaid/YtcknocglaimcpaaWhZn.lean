/- WheelPlays: the wheel and the document's wheel in one memory. -/
import Derived.Test.YtcknocglaimcpaaWhZm
namespace Go.Proofs.Ytcknocglaimcpaa.WA
open Go.RowKit Go.Proofs.YtcknocglaimcpaaW.PrintWords Go.Proofs.YtcknocglaimcpaaW.PrintLast Go.Proofs.YtcknocglaimcpaaW.PrintMore
open Go.Proofs.Ytcknocglaimcpaa.PW Go.Proofs.Ytcknocglaimcpaa.Wh Go.Maps
set_option linter.unusedVariables false
set_option linter.unusedSimpArgs false
set_option maxHeartbeats 8000000
set_option maxRecDepth 100000
/-- The memory that is neither the wheel's nor the document's wheel's own block. -/
def frO (col : Nat → Nat) (b bm r g : Nat) : Prop := ¬ mine col b bm g ∧ g ≠ r
structure PW (w0 w : World) (col : Nat → Nat) (b bm : Nat) (st : St) (r : Nat) (time : Int) (A : Option Addr) (n c : Nat) (L : List Tm) : Prop where
  wi : WI w w0.heap.size col b bm st
  rm : ¬ mine col b bm r
  da : DA w r time A n c L
  ra : ∀ ad, A = some ad → 0 < n → ¬ mine col b bm ad.block
  bl : Below w0.heap.size w0 w
  rb : w0.heap.size ≤ r
theorem PW.wheel {w0 w w' : World} {col col' : Nat → Nat} {b bm : Nat} {st st' : St} {r : Nat} {time : Int} {A : Option Addr} {n c : Nat} {L : List Tm} (h : PW w0 w col b bm st r time A n c L) (hw : WI w' w0.heap.size col' b bm st') (hf : Fr w w' w0.heap.size col col' b bm) :
    PW w0 w' col' b bm st' r time A n c L ∧ Kp w w' (frO col b bm r) (frO col' b bm r) ∧ ∀ (v : Value) (xs : List S38), k38.R 38 w' w.heap.size (fun g => col' g = 203) v xs → k38.R 38 w' 0 (frO col' b bm r) v xs := by
  have hr := h.da.lt
  obtain ⟨lb, lbm, _⟩ := h.wi.lt
  have hA : ∀ ad, A = some ad → 0 < n → ad.block < w.heap.size := by
    rintro ad rfl hn
    exact Kd.C_lt h.da.rd hn (by decide)
  refine ⟨⟨hw, (fr_mine hf hr h.rm).2, h.da.keep (S := mine col b bm) hf.bl.size (fun g hg hm => (fr_mine hf hg hm).1) h.rm h.ra, fun ad e hn => (fr_mine hf (hA ad e hn) (h.ra ad e hn)).2, below_trans h.bl hf.bl, h.rb⟩, ⟨hf.bl.size, ?_⟩, ?_⟩
  · rintro g hg ⟨h1, h2⟩
    obtain ⟨q1, q2⟩ := fr_mine hf hg h1
    exact ⟨q1, q2, h2⟩
  · intro v xs hR
    refine Kd.R_lower (base := w.heap.size) (Kd.R_mono (Kd.R_bound hR) ?_) (Nat.zero_le _)
    rintro g ⟨hc, hge, _⟩
    exact ⟨mine_not (by omega) (by omega) (by omega), by omega⟩
theorem mine_new {w : World} {col : Nat → Nat} {b bm g : Nat} (hg : g < w.heap.size) (h : ¬ mine col b bm g) : ¬ mine (newCol w col 202) b bm g := by
  unfold mine at *
  rw [newCol_lt hg]
  exact h
theorem mine_late {w : World} {col : Nat → Nat} {b bm g : Nat} (hg : w.heap.size ≤ g) (hb : b < w.heap.size) (hm : bm < w.heap.size) : ¬ mine (newCol w col 202) b bm g := mine_not (by rw [newCol_ge (by omega)]; decide) (by omega) (by omega)
theorem PW.doc {w0 w w' : World} {col : Nat → Nat} {b bm : Nat} {st : St} {r : Nat} {time time' : Int} {A A' : Option Addr} {n c n' c' : Nat} {L L' : List Tm} (h : PW w0 w col b bm st r time A n c L) (hd : DA w' r time' A' n' c' L') (hg : w.grownBy w' (some r)) (hs : Src w A n A' n') :
    PW w0 w' (newCol w col 202) b bm st r time' A' n' c' L' ∧ Kp w w' (frO col b bm r) (frO (newCol w col 202) b bm r) := by
  have hr := h.da.lt
  obtain ⟨lb, lbm, hbase⟩ := h.wi.lt
  have hA : ∀ ad, A = some ad → 0 < n → ad.block < w.heap.size := by
    rintro ad rfl hn
    exact Kd.C_lt h.da.rd hn (by decide)
  have hk : ∀ g, g < w.heap.size → g ≠ r → w'.heap[g]? = w.heap[g]? := fun g hlt hne => hg.block g hlt (fun e => hne (Option.some.inj e))
  refine ⟨⟨h.wi.stay hg.size (fun g hlt hm => hk g hlt (fun e => h.rm (e ▸ hm))), mine_new hr h.rm, hd, ?_, below_trans h.bl ⟨hg.os, hg.tape, hg.output, hg.size, fun g hlt => hk g (by omega) (by have := h.rb; omega)⟩, h.rb⟩, ⟨hg.size, ?_⟩⟩
  · intro ad' e hn
    rcases hs ad' e hn with h1 | ⟨ad, h1, h2, h3⟩
    · exact mine_late h1 lb lbm
    · rw [h3]
      exact mine_new (hA ad h1 h2) (h.ra ad h1 h2)
  · rintro g hlt ⟨h1, h2⟩
    exact ⟨hk g hlt h2, mine_new hlt h1, h2⟩
theorem PW.grow {w0 w w' : World} {col : Nat → Nat} {b bm : Nat} {st : St} {r : Nat} {time : Int} {A : Option Addr} {n c : Nat} {L : List Tm} (h : PW w0 w col b bm st r time A n c L) (hb : Below w.heap.size w w') :
    PW w0 w' (newCol w col 202) b bm st r time A n c L ∧ Kp w w' (frO col b bm r) (frO (newCol w col 202) b bm r) ∧ ∀ g, w.heap.size ≤ g → frO (newCol w col 202) b bm r g := by
  obtain ⟨q1, q2⟩ := h.doc (h.da.grow hb) (grown_below hb _) (Src.refl _ _ _)
  obtain ⟨lb, lbm, _⟩ := h.wi.lt
  have hr := h.da.lt
  exact ⟨q1, q2, fun g hg => ⟨mine_late hg lb lbm, by omega⟩⟩
theorem Kp.trans {w w1 w2 : World} {f f1 f2 : Nat → Prop} (h : Kp w w1 f f1) (h' : Kp w1 w2 f1 f2) : Kp w w2 f f2 := ⟨Nat.le_trans h.1 h'.1, fun g hg hf => by
  obtain ⟨a, b⟩ := h.2 g hg hf
  obtain ⟨c, d⟩ := h'.2 g (Nat.lt_of_lt_of_le hg h.1) b
  exact ⟨c.trans a, d⟩⟩
theorem Kp.refl (w : World) (f : Nat → Prop) : Kp w w f f := ⟨Nat.le_refl _, fun g _ hf => ⟨rfl, hf⟩⟩
/-- An act, in a box of the call's own. -/
def Bx (w : World) (f : Nat → Prop) (g : Nat) (t : S31) : Prop := f g ∧ w.heap[g]? = some (.cells #[.int .i64 t.f0, .string t.f1, .int .i64 t.f2] 31 (0, 0))
theorem Kp.bx {w w' : World} {f f' : Nat → Prop} (h : Kp w w' f f') {g : Nat} {t : S31} (hb : Bx w f g t) : Bx w' f' g t := by
  obtain ⟨a, b⟩ := h.2 g (blk_lt hb.2) hb.1
  exact ⟨b, a.trans hb.2⟩
theorem Bx.cells {w : World} {f : Nat → Prop} {g : Nat} {t : S31} (h : Bx w f g t) : w.cell? ⟨g, 0, none⟩ = some (.int .i64 t.f0) ∧ w.cell? ⟨g, 1, none⟩ = some (.string t.f1) ∧ w.cell? ⟨g, 2, none⟩ = some (.int .i64 t.f2) := ⟨(blk_cell h.2 0).trans rfl, (blk_cell h.2 1).trans rfl, (blk_cell h.2 2).trans rfl⟩
theorem R_val {w : World} {b : Nat} {fr : Nat → Prop} {v : Value} {xs : List Tm} (h : k38.R 38 w b fr v (xs.map ofT)) : ∃ A n c, v = .slice A n c ∧ n = xs.length := by
  obtain ⟨A, c, e⟩ := Kd.R_slice h
  exact ⟨A, _, c, e, List.length_map _⟩
theorem R_C {w : World} {b : Nat} {fr : Nat → Prop} {A : Option Addr} {n c : Nat} {xs : List S38} (h : k38.R 38 w b fr (.slice A n c) xs) : Kd.C k38 w A n xs := by
  obtain ⟨h1, _, h3⟩ := Kd.R_reads' h
  rw [h1]
  exact h3
theorem same_ns {w : World} {A B : Option Addr} {n c d : Nat} {xs : List S38} (h1 : Kd.C k38 w A n xs) (h2 : Kd.C k38 w B n xs) (hl : xs.length ≤ 1000000) :
    Calls Try.prog 17 #[.slice A n c, .slice B n d] w fun e w' => e = .returned (.bool true) ∧ Below w.heap.size w w' := by
  obtain rfl := h1.1
  exact same_calls2 w A B c d xs h1 h2 hl
/-! ### The calls -/
/-- What is known of the list. -/
def Kn (st : St) (L : List Tm) (m : Nat) : Prop := Rel st L ∧ (∀ t ∈ L, t.1.size ≤ 1000) ∧ L.length ≤ m ∧ m ≤ 250
theorem Kn.sm {st : St} {L : List Tm} {m : Nat} (h : Kn st L m) : Sm L := ⟨by have := h.2.2.1; have := h.2.2.2; omega, h.2.1⟩
theorem p_set {w0 w : World} {col : Nat → Nat} {b bm : Nat} {st : St} {r : Nat} {time : Int} {A : Option Addr} {n c m : Nat} {L M : List Tm} (h : PW w0 w col b bm st r time A n c L) (hk : Kn st M m) (key : ByteArray) (a : Int) (hkey : key.size ≤ 1000) :
    Calls Try.prog 10 #[.pointer (some ⟨b, 0, none⟩), .string key, .int .i64 a] w fun e w' => e = .returned (.int .i64 (setE st key a)) ∧ ∃ col', PW w0 w' col' b bm (setS st key a) r time A n c L ∧ Kp w w' (frO col b bm r) (frO col' b bm r) := by
  obtain ⟨kl, hkl⟩ := key_of hkey
  obtain ⟨h1, h2, h3, h4⟩ := hk
  refine (set_calls h.wi key a hkl h1.lo (by rw [h1.ct]; omega) (flat_few (rel_len h1 (by omega)))).mono ?_
  rintro e w' ⟨rfl, col', q1, q2⟩
  obtain ⟨p1, p2, _⟩ := h.wheel q1 q2
  exact ⟨rfl, col', p1, p2⟩
theorem p_drop {w0 w : World} {col : Nat → Nat} {b bm : Nat} {st : St} {r : Nat} {time : Int} {A : Option Addr} {n c m : Nat} {L M : List Tm} (h : PW w0 w col b bm st r time A n c L) (hk : Kn st M m) (key : ByteArray) (hkey : key.size ≤ 1000) :
    Calls Try.prog 20 #[.pointer (some ⟨b, 0, none⟩), .string key] w fun e w' => e = .returned (.bool (lk M key).isSome) ∧ ∃ col', PW w0 w' col' b bm (dropS st key) r time A n c L ∧ Kp w w' (frO col b bm r) (frO col' b bm r) := by
  obtain ⟨kl, hkl⟩ := key_of hkey
  obtain ⟨h1, h2, h3, h4⟩ := hk
  refine (drop_calls h.wi key hkl (fun l k hl hk => Nat.le_trans (flat_few (rel_len h1 (by omega)) l k hl hk) (by decide))).mono ?_
  rintro e w' ⟨rfl, col', q1, q2⟩
  obtain ⟨p1, p2, _⟩ := h.wheel q1 q2
  exact ⟨by rw [rel_lk h1], col', p1, p2⟩
theorem p_tick {w0 w : World} {col : Nat → Nat} {b bm : Nat} {st : St} {r : Nat} {time : Int} {A : Option Addr} {n c m : Nat} {L M : List Tm} (h : PW w0 w col b bm st r time A n c L) (hk : Kn st M m) :
    Calls Try.prog 12 #[.pointer (some ⟨b, 0, none⟩)] w fun e w' => ∃ v col', e = .returned v ∧ PW w0 w' col' b bm (tickS st) r time A n c L ∧ Kp w w' (frO col b bm r) (frO col' b bm r) ∧ k38.R 38 w' 0 (frO col' b bm r) v ((tickO st).map ofT) := by
  refine (tick_calls h.wi hk.1 hk.sm).mono ?_
  rintro e w' ⟨v, col', rfl, r1, q1, q2⟩
  obtain ⟨p1, p2, p3⟩ := h.wheel q1 q2
  exact ⟨v, col', rfl, p1, p2, p3 v _ r1⟩
theorem p_all {w0 w : World} {col : Nat → Nat} {b bm : Nat} {st : St} {r : Nat} {time : Int} {A : Option Addr} {n c m : Nat} {L M : List Tm} (h : PW w0 w col b bm st r time A n c L) (hk : Kn st M m) :
    Calls Try.prog 13 #[.pointer (some ⟨b, 0, none⟩)] w fun e w' => ∃ v col', e = .returned v ∧ PW w0 w' col' b bm st r time A n c L ∧ Kp w w' (frO col b bm r) (frO col' b bm r) ∧ k38.R 38 w' 0 (frO col' b bm r) v (M.map ofT) := by
  refine (all_calls h.wi hk.1 hk.sm).mono ?_
  rintro e w' ⟨v, col', rfl, r1, q1, q2⟩
  obtain ⟨p1, p2, p3⟩ := h.wheel q1 q2
  exact ⟨v, col', rfl, p1, p2, p3 v _ r1⟩
theorem p_now {w0 w : World} {col : Nat → Nat} {b bm : Nat} {st : St} {r : Nat} {time : Int} {A : Option Addr} {n c : Nat} {L : List Tm} (h : PW w0 w col b bm st r time A n c L) :
    Calls Try.prog 11 #[.pointer (some ⟨b, 0, none⟩)] w fun e w' => e = .returned (.int .i64 st.now) ∧ w' = w := by
  obtain ⟨D, cs, hw⟩ := h.wi
  exact now_calls hw
theorem p_at {w0 w : World} {col : Nat → Nat} {b bm : Nat} {st : St} {r : Nat} {time : Int} {A : Option Addr} {n c m : Nat} {L M : List Tm} (h : PW w0 w col b bm st r time A n c L) (hk : Kn st M m) (key : ByteArray) (hkey : key.size ≤ 1000) :
    Calls Try.prog 24 #[.pointer (some ⟨b, 0, none⟩), .string key] w fun e w' => e = .returned (.tuple #[.int .i64 ((lk M key).getD 0), .bool (lk M key).isSome]) ∧ w' = w := by
  obtain ⟨kl, hkl⟩ := key_of hkey
  obtain ⟨D, cs, hw⟩ := h.wi
  have := at_calls hw key hkl
  rw [rel_lk hk.1] at this
  exact this
theorem d_at {w0 w : World} {col : Nat → Nat} {b bm : Nat} {st : St} {r : Nat} {time : Int} {A : Option Addr} {n c : Nat} {L : List Tm} (h : PW w0 w col b bm st r time A n c L) (hl : L.length ≤ 250) (key : ByteArray) :
    Calls Try.prog 25 #[.pointer (some ⟨r, 0, none⟩), .string key] w fun e w' => e = .returned (.tuple #[.int .i64 ((lk L key).getD 0), .bool (lk L key).isSome]) ∧ w' = w := dat_calls h.da (by rw [h.da.nn]; omega) key
theorem d_drop {w0 w : World} {col : Nat → Nat} {b bm : Nat} {st : St} {r : Nat} {time : Int} {A : Option Addr} {n c : Nat} {L : List Tm} (h : PW w0 w col b bm st r time A n c L) (hl : L.length ≤ 250) (key : ByteArray) :
    Calls Try.prog 21 #[.pointer (some ⟨r, 0, none⟩), .string key] w fun e w' => e = .returned (.bool (lk L key).isSome) ∧ ∃ col' A' n' c', PW w0 w' col' b bm st r time A' n' c' (cutK L key) ∧ Kp w w' (frO col b bm r) (frO col' b bm r) := by
  refine (ddrop_calls h.da (by rw [h.da.nn]; omega) key).mono ?_
  rintro e w' ⟨rfl, A', n', c', q1, q2, q3⟩
  obtain ⟨p1, p2⟩ := h.doc q1 q2 q3
  exact ⟨rfl, _, A', n', c', p1, p2⟩
theorem d_set {w0 w : World} {col : Nat → Nat} {b bm : Nat} {st st0 : St} {r : Nat} {A : Option Addr} {n c m : Nat} {L : List Tm} (h : PW w0 w col b bm st r st0.now A n c L) (hk : Kn st0 L m) (key : ByteArray) (a : Int) :
    Calls Try.prog 19 #[.pointer (some ⟨r, 0, none⟩), .string key, .int .i64 a] w fun e w' => e = .returned (.int .i64 (setE st0 key a)) ∧ ∃ col' A' n' c', PW w0 w' col' b bm st r st0.now A' n' c' (setL st0 L key a) ∧ Kp w w' (frO col b bm r) (frO col' b bm r) := by
  obtain ⟨h1, h2, h3, h4⟩ := hk
  have hn : n ≤ 1000 := by rw [h.da.nn]; omega
  have hno : setE st0 key a ≠ 0 → setL st0 L key a = L := fun e => if_neg e
  by_cases x1 : key.size = 0 ∨ key.size > 100 ∨ a > far
  · have e1 : setE st0 key a = 2 := if_pos x1
    refine (dset_arg w r key a x1).mono ?_
    rintro e w' ⟨rfl, rfl⟩
    exact ⟨by rw [e1], col, A, n, c, by rw [hno (by rw [e1]; decide)]; exact h, Kp.refl _ _⟩
  by_cases x2 : a ≤ st0.now
  · have e1 : setE st0 key a = 110 := by unfold setE; rw [if_neg x1, if_pos x2]
    refine (dset_time h.da key a x1 x2).mono ?_
    rintro e w' ⟨rfl, rfl⟩
    exact ⟨by rw [e1], col, A, n, c, by rw [hno (by rw [e1]; decide)]; exact h, Kp.refl _ _⟩
  by_cases x3 : lk L key = none ∧ 200 ≤ n
  · have e1 : setE st0 key a = 3 := by unfold setE; rw [if_neg x1, if_neg x2, if_pos (by rw [rel_lk h1, h1.ct, ← h.da.nn]; exact x3)]
    refine (dset_big h.da hn key a x1 x2 x3.1 x3.2).mono ?_
    rintro e w' ⟨rfl, rfl⟩
    exact ⟨by rw [e1], col, A, n, c, by rw [hno (by rw [e1]; decide)]; exact h, Kp.refl _ _⟩
  have e1 : setE st0 key a = 0 := by unfold setE; rw [if_neg x1, if_neg x2, if_neg (by rw [rel_lk h1, h1.ct, ← h.da.nn]; exact x3)]
  refine (dset_ok h.da hn key a x1 x2 ?_).mono ?_
  · cases hl : lk L key with
    | none => exact .inr (by have := x3; rw [hl] at this; simp at this; exact this)
    | some x => exact .inl rfl
  · rintro e w' ⟨rfl, A', n', c', q1, q2, q3⟩
    obtain ⟨p1, p2⟩ := h.doc q1 q2 q3
    exact ⟨by rw [e1], _, A', n', c', by rw [show setL st0 L key a = insL L key a from if_pos e1]; exact p1, p2⟩
/-- The list behind Tick. -/
def tickL (st : St) (L : List Tm) : List Tm := if st.now < far then L.drop (pre (st.now + 1) L) else L
theorem tick_far' {st : St} (h : ¬ st.now < far) : tickS st = st ∧ tickO st = [] := by
  constructor
  · unfold tickS; rw [if_pos (by omega)]
  · unfold tickO; rw [if_pos (by omega)]
theorem d_tick {w0 w : World} {col : Nat → Nat} {b bm : Nat} {st st0 : St} {r : Nat} {A : Option Addr} {n c m : Nat} {L : List Tm} (h : PW w0 w col b bm st r st0.now A n c L) (hk : Kn st0 L m) :
    Calls Try.prog 22 #[.pointer (some ⟨r, 0, none⟩)] w fun e w' => ∃ A0 n0 c0 col' A' n' c', e = .returned (.slice A0 n0 c0) ∧ PW w0 w' col' b bm st r (tickS st0).now A' n' c' (tickL st0 L) ∧ Kp w w' (frO col b bm r) (frO col' b bm r) ∧ n0 = (tickO st0).length ∧ Kd.C k38 w' A0 n0 ((tickO st0).map ofT) := by
  obtain ⟨h1, h2, h3, h4⟩ := hk
  have hn : n ≤ 1000 := by rw [h.da.nn]; omega
  by_cases hf : st0.now < far
  · obtain ⟨r1, r2, r3⟩ := rel_tick h1 hf
    have hfar : far = 1000000000 := rfl
    refine (dtick_calls h.da hn (st0.now + 1) ⟨h1.lo, by omega⟩ rfl (fun t ht => (h1.later ht).1)).mono ?_
    rintro e w' ⟨rfl, A', q1, q2, q3, q4⟩
    obtain ⟨p1, p2⟩ := h.doc q1 q2 q3
    refine ⟨A, pre (st0.now + 1) L, c, _, A', n - pre (st0.now + 1) L, c - pre (st0.now + 1) L, rfl, ?_, p2, ?_, ?_⟩
    · rw [r3, tickL, if_pos hf]
      exact p1
    · rw [r2, List.length_take]
      have := pre_le (st0.now + 1) L
      omega
    · rw [r2]
      exact q4
  · obtain ⟨e1, e2⟩ := tick_far' hf
    have hfar : far = 1000000000 := rfl
    have hnow : st0.now = 1000000000 := by have := h1.hi; omega
    have hda := h.da
    rw [hnow] at hda
    refine (dtick_far hda).mono ?_
    rintro e w' ⟨rfl, rfl⟩
    refine ⟨none, 0, 0, col, A, n, c, rfl, ?_, Kp.refl _ _, by rw [e2]; rfl, by rw [e2]; exact ⟨rfl, Nat.zero_le _, fun h => absurd h (by decide)⟩⟩
    rw [e1, tickL, if_neg hf]
    exact h
/-- Skip, whatever it is asked. -/
def skE (m : Int) : Int := if m < 0 ∨ m > 100000 then 2 else 0
def skS (m : Int) (st : St) : St := if m < 0 ∨ m > 100000 then st else skipS m.toNat st
def skO (m : Int) (st : St) : List Tm := if m < 0 ∨ m > 100000 then [] else skipO m.toNat st
def skL (m : Int) (st : St) (L : List Tm) : List Tm := if m < 0 ∨ m > 100000 then L else L.drop (pre (min (st.now + m) far) L)
theorem p_skip {w0 w : World} {col : Nat → Nat} {b bm : Nat} {st : St} {r : Nat} {time : Int} {A : Option Addr} {n c m : Nat} {L M : List Tm} (h : PW w0 w col b bm st r time A n c L) (hk : Kn st M m) (x : Int) :
    Calls Try.prog 16 #[.pointer (some ⟨b, 0, none⟩), .int .i64 x] w fun e w' => ∃ v col', e = .returned (.tuple #[v, .int .i64 (skE x)]) ∧ PW w0 w' col' b bm (skS x st) r time A n c L ∧ Kp w w' (frO col b bm r) (frO col' b bm r) ∧ k38.R 38 w' 0 (frO col' b bm r) v ((skO x st).map ofT) := by
  by_cases hx : x < 0 ∨ x > 100000
  · refine (skip_bad h.wi x hx).mono ?_
    rintro e w' ⟨rfl, rfl⟩
    refine ⟨_, col, by rw [skE, if_pos hx], by rw [skS, if_pos hx]; exact h, Kp.refl _ _, by rw [skO, if_pos hx]; exact Kd.R_nil _ _ _ _ _⟩
  · obtain ⟨y, rfl⟩ := Int.eq_ofNat_of_zero_le (show 0 ≤ x by omega)
    refine (skip_calls h.wi hk.1 hk.sm y (by omega)).mono ?_
    rintro e w' ⟨v, col', rfl, r1, q1, q2⟩
    obtain ⟨p1, p2, p3⟩ := h.wheel q1 q2
    exact ⟨v, col', by rw [skE, if_neg hx], by rw [skS, if_neg hx]; exact p1, p2, by rw [skO, if_neg hx]; exact p3 v _ r1⟩
theorem d_skip {w0 w : World} {col : Nat → Nat} {b bm : Nat} {st st0 : St} {r : Nat} {A : Option Addr} {n c m : Nat} {L : List Tm} (h : PW w0 w col b bm st r st0.now A n c L) (hk : Kn st0 L m) (x : Int) :
    Calls Try.prog 23 #[.pointer (some ⟨r, 0, none⟩), .int .i64 x] w fun e w' => ∃ A0 n0 c0 col' A' n' c', e = .returned (.tuple #[.slice A0 n0 c0, .int .i64 (skE x)]) ∧ PW w0 w' col' b bm st r (skS x st0).now A' n' c' (skL x st0 L) ∧ Kp w w' (frO col b bm r) (frO col' b bm r) ∧ n0 = (skO x st0).length ∧ Kd.C k38 w' A0 n0 ((skO x st0).map ofT) := by
  obtain ⟨h1, h2, h3, h4⟩ := hk
  have hn : n ≤ 1000 := by rw [h.da.nn]; omega
  by_cases hx : x < 0 ∨ x > 100000
  · refine (dskip_bad w r x hx).mono ?_
    rintro e w' ⟨rfl, rfl⟩
    refine ⟨none, 0, 0, col, A, n, c, by rw [skE, if_pos hx], ?_, Kp.refl _ _, by rw [skO, if_pos hx]; rfl, by rw [skO, if_pos hx]; exact ⟨rfl, Nat.zero_le _, fun h => absurd h (by decide)⟩⟩
    rw [skS, if_pos hx, skL, if_pos hx]
    exact h
  · obtain ⟨r1, r2, r3⟩ := rel_skip x.toNat h1
    have hxx : ((x.toNat : Nat) : Int) = x := Int.toNat_of_nonneg (by omega)
    rw [hxx] at r1 r2 r3
    have hfar : far = 1000000000 := rfl
    have hhi := h1.hi
    have key : Calls Try.prog 23 #[.pointer (some ⟨r, 0, none⟩), .int .i64 x] w fun e w' => e = .returned (.tuple #[.slice A (pre (min (st0.now + x) far) L) c, .int .i64 0]) ∧ SkipQ w r st0.now A n c L (min (st0.now + x) far) w' := by
      by_cases hto : 1000000000 < st0.now + x
      · have e : min (st0.now + x) far = 1000000000 := by omega
        rw [e]
        exact dskip_hi h.da hn x _ (by omega) (by omega) ⟨h1.lo, by omega⟩ rfl hto
      · have e : min (st0.now + x) far = st0.now + x := by omega
        rw [e]
        exact dskip_lo h.da hn x _ (by omega) (by omega) ⟨h1.lo, by omega⟩ rfl (by omega)
    refine key.mono ?_
    rintro e w' ⟨rfl, A', q1, q2, q3, q4⟩
    obtain ⟨p1, p2⟩ := h.doc q1 q2 q3
    refine ⟨A, pre (min (st0.now + x) far) L, c, _, A', n - pre (min (st0.now + x) far) L, c - pre (min (st0.now + x) far) L, by rw [skE, if_neg hx], ?_, p2, ?_, ?_⟩
    · rw [skS, if_neg hx, skL, if_neg hx, r3]
      exact p1
    · rw [skO, if_neg hx, r2, List.length_take]
      have := pre_le (min (st0.now + x) far) L
      omega
    · rw [skO, if_neg hx, r2]
      exact q4
end Go.Proofs.Ytcknocglaimcpaa.WA

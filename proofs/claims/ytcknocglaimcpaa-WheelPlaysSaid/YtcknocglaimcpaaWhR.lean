/- Drop and Set. -/
import Derived.Test.YtcknocglaimcpaaWhQ
namespace Go.Proofs.Ytcknocglaimcpaa.WA
open Go.RowKit Go.Proofs.YtcknocglaimcpaaW.PrintWords Go.Proofs.YtcknocglaimcpaaW.PrintLast Go.Proofs.YtcknocglaimcpaaW.PrintMore
open Go.Proofs.Ytcknocglaimcpaa.PW Go.Proofs.Ytcknocglaimcpaa.Wh Go.Maps
set_option linter.unusedVariables false
set_option linter.unusedSimpArgs false
set_option maxHeartbeats 8000000
set_option maxRecDepth 100000
/-- A wheel, as so many timers. -/
def WI (w : World) (base : Nat) (col : Nat → Nat) (b bm : Nat) (st : St) : Prop := ∃ D cs, WAt w base col b bm st.cnt D cs st
theorem owns_tight {w : World} {bm n : Nat} {D : DataW Unit} (h : w.ownsMap Try.prog 9 (plainElem (H := Unit) Try.prog 3) bm n D) : w.ownsMap Try.prog 9 (plainElem (H := Unit) Try.prog 3) bm (Maps.size D) D := by
  obtain ⟨es, clock, hb, F, hs, rfl⟩ := h
  refine ⟨es, clock, hb, F, ?_, rfl⟩
  simp [Maps.size, length_sorted]
theorem WAt.wi {w : World} {base : Nat} {col : Nat → Nat} {b bm n : Nat} {D : DataW Unit} {cs : Array Value} {st : St} (h : WAt w base col b bm n D cs st) : WI w base col b bm st := by
  have := owns_tight h.mp
  rw [h.du.1] at this
  exact ⟨D, cs, h.hb, h.sz, h.c0, h.c1, h.c2, h.sl, h.bb, h.cb, h.cm, this, h.du, h.bmb⟩
/-- The slots are no longer than so. -/
def Few (st : St) (m : Nat) : Prop := ∀ l k, l < 6 → k < 32 → (st.slot l k).length ≤ m
theorem drop_calls {w : World} {base : Nat} {col : Nat → Nat} {b bm : Nat} {st : St} (h : WI w base col b bm st) (key : ByteArray) {kl : Lit} (hkey : keyOf Try.prog 9 (.string key) = some kl) (hlen : Few st 1000000) :
    Calls Try.prog 20 #[.pointer (some ⟨b, 0, none⟩), .string key] w fun e w' => e = .returned (.bool (st.due key).isSome) ∧ ∃ col', WI w' base col' b bm (dropS st key) ∧ Fr w w' base col col' b bm := by
  obtain ⟨D, cs, h⟩ := h
  cases hd : st.due key with
  | none =>
    refine (drop_no h key hkey hd).mono ?_
    rintro e w' ⟨rfl, rfl⟩
    exact ⟨rfl, col, by unfold dropS; rw [hd]; exact h.wi, Fr.refl _ _ _ _ _⟩
  | some a =>
    refine (drop_yes h key a hkey hd hlen).mono ?_
    rintro e w' ⟨rfl, col', D', cs', h', f⟩
    exact ⟨rfl, col', h'.wi, f⟩
theorem dropS_now (st : St) (key : ByteArray) : (dropS st key).now = st.now := by unfold dropS; cases st.due key <;> rfl
theorem dropS_due (st : St) (key : ByteArray) : (dropS st key).due key = none := by
  unfold dropS
  cases h : st.due key with
  | none => exact h
  | some a => exact if_pos rfl
theorem dropS_few {st : St} {m : Nat} (h : Few st m) (key : ByteArray) : Few (dropS st key) m := by
  intro l k hl hk
  unfold dropS
  cases st.due key with
  | none => exact h l k hl hk
  | some a => exact Nat.le_trans (List.length_filter_le _ _) (h l k hl hk)
theorem dropS_cnt (st : St) (key : ByteArray) : (dropS st key).cnt ≤ st.cnt := by
  unfold dropS
  cases st.due key with
  | none => exact Nat.le_refl _
  | some a => exact Nat.sub_le _ _
/-- put, at the wheel as a whole. -/
theorem put_fr {w : World} {base : Nat} {col : Nat → Nat} {b bm : Nat} {st : St} (h : WI w base col b bm st) (t : Tm) (h0 : 0 ≤ st.now) (h1 : st.now ≤ t.2) (h2 : t.2 ≤ 1000000000) (hlen : Few st 1000) :
    Calls Try.prog 27 #[.pointer (some ⟨b, 0, none⟩), .agg #[.string t.1, .int .i64 t.2]] w fun e w' => e = .returned (.tuple #[]) ∧ ∃ col', WI w' base col' b bm { st with slot := put st.now st.slot t } ∧ Fr w w' base col col' b bm := by
  obtain ⟨D, cs, h⟩ := h
  refine (put_calls h h.base_le t h0 h1 h2 (hlen _ _ (lev_lt _ _) (idx_lt _ _))).mono ?_
  rintro e w' ⟨rfl, col', cs', h', f1, f2, f3⟩
  exact ⟨rfl, col', h'.wi, f2, fun g hg _ => f1 g hg, fun g hg hc hb _ => f3 g hg hc hb⟩
/-- The store of Set, and put behind it. -/
theorem store_put {w w1 : World} {base : Nat} {col : Nat → Nat} {b bm n : Nat} {D : DataW Unit} {cs : Array Value} {st : St} (h : WAt w base col b bm n D cs st) (key : ByteArray) (a : Int) {kl : Lit} (hkey : keyOf Try.prog 9 (.string key) = some kl) (hd : st.due key = none)
    (hown : w1.ownsMap Try.prog 9 (plainElem (H := Unit) Try.prog 3) bm (n + 1) (D.put kl (.lit (.int .i64 a)))) (ht : w.mapTurned w1 bm) (h0 : 0 ≤ st.now) (h1 : st.now ≤ a) (h2 : a ≤ 1000000000) (hlen : Few st 1000) :
    Calls Try.prog 27 #[.pointer (some ⟨b, 0, none⟩), .agg #[.string key, .int .i64 a]] w1 fun e w' => e = .returned (.tuple #[]) ∧ ∃ col', WI w' base col' b bm { st with due := fun k => if k = key then some a else st.due k, cnt := st.cnt + 1, slot := put st.now st.slot (key, a) } ∧ Fr w w' base col col' b bm := by
  obtain ⟨m1, m2⟩ := h.map ht.grown hown _ _ (due_put h.du (h.mp.tidy keyLaw) hkey hd a)
  refine (put_fr m1.wi (key, a) h0 h1 h2 hlen).mono ?_
  rintro e w' ⟨rfl, col', h', f⟩
  exact ⟨rfl, col', h', m2.trans f⟩
theorem set_yes {w : World} {base : Nat} {col : Nat → Nat} {b bm : Nat} {st : St} (h : WI w base col b bm st) (key : ByteArray) (a : Int) {kl : Lit} (hkey : keyOf Try.prog 9 (.string key) = some kl) (h0 : setE st key a = 0) (hd : st.due key ≠ some a)
    (hnow : 0 ≤ st.now) (hcnt : st.cnt ≤ 1000) (hlen : Few st 1000) :
    Calls Try.prog 10 #[.pointer (some ⟨b, 0, none⟩), .string key, .int .i64 a] w fun e w' => e = .returned (.int .i64 0) ∧ ∃ col', WI w' base col' b bm (setOk st key a) ∧ Fr w w' base col col' b bm := by
  have hu := Try.underlying62
  have HDR := Aside0.mk (drop_calls h key hkey (fun l k hl hk => Nat.le_trans (hlen l k hl hk) (by decide)))
  obtain ⟨D, cs, h⟩ := h
  have hn := none_at w b true (h.cell h.c0)
  have c1 := h.cell h.c1
  have c2 := h.cell h.c2
  have HO := Aside0.mk h.mp
  have HK := Aside0.mk hkey
  have hsz : key.size = 0 ↔ key.toList = [] := by
    rw [ByteArray.toList_eq, List.eq_nil_iff_length_eq_zero, Array.length_toList]; rfl
  have hx : ¬ (key.size = 0 ∨ key.size > 100 ∨ a > far) := fun e => by unfold setE at h0; rw [if_pos e] at h0; omega
  have hy : ¬ a ≤ st.now := fun e => by unfold setE at h0; rw [if_neg hx, if_pos e] at h0; omega
  have hz : ¬ (st.due key = none ∧ st.cnt ≥ 200) := fun e => by unfold setE at h0; rw [if_neg hx, if_neg hy, if_pos e] at h0; omega
  have hze : key.toList.isEmpty = false := by cases hk : key.toList with | nil => exact absurd (.inl (hsz.2 hk)) hx | cons => rfl
  have hbb : decide (100 < key.size) = false := decide_eq_false (fun e => hx (.inr (.inl e)))
  have hbi : decide ((100 : Int) < (key.size : Int)) = false := decide_eq_false (fun e => hx (.inr (.inl (by omega))))
  have hbn : ¬ 100 < key.size := fun e => hx (.inr (.inl e))
  have hfb : decide (1000000000 < a) = false := decide_eq_false (fun e => hx (.inr (.inr e)))
  have hwb : decide (a ≤ st.now) = false := decide_eq_false hy
  have hfar : a ≤ 1000000000 := by unfold far at hx; omega
  have HR := Aside0.mk (And.intro hnow (And.intro hcnt (And.intro hlen (And.intro (show st.now < a by omega) hfar))))
  have HVAL : Aside0 (plainElem (H := Unit) Try.prog 3 (.int .i64 a) = some (.lit (.int .i64 a), [])) := ⟨plainElem_int Try.underlying3 (by simp [Lit.wf, IntKind.min, IntKind.max, IntKind.signed, IntKind.bits]; omega)⟩
  have HN : Aside0 (∀ w1 col1 D1 cs1, WAt w1 base col1 b bm (dropS st key).cnt D1 cs1 (dropS st key) → Fr w w1 base col col1 b bm → w1.cell? ⟨b, 2, none⟩ = some (.map (some bm)) ∧ (dropS st key).cnt < maxLen ∧ w1.ownsMap Try.prog 9 (plainElem (H := Unit) Try.prog 3) bm (dropS st key).cnt D1 ∧
      ∀ w2, w2.ownsMap Try.prog 9 (plainElem (H := Unit) Try.prog 3) bm ((dropS st key).cnt + 1) (D1.put kl (.lit (.int .i64 a))) → w1.mapTurned w2 bm → Calls Try.prog 27 #[.pointer (some ⟨b, 0, none⟩), .agg #[.string key, .int .i64 a]] w2 fun e w' => e = .returned (.tuple #[]) ∧ ∃ col', WI w' base col' b bm (setOk st key a) ∧ Fr w w' base col col' b bm) := ⟨by
    intro w1 col1 D1 cs1 h1 f1
    refine ⟨h1.cell h1.c2, by have := dropS_cnt st key; have : maxLen = 9223372036854775807 := rfl; omega, h1.mp, ?_⟩
    intro w2 ho2 ht2
    refine (store_put h1 key a hkey (dropS_due st key) ho2 ht2 (by rw [dropS_now]; exact hnow) (by rw [dropS_now]; omega) hfar (dropS_few hlen key)).mono ?_
    rintro e w' ⟨rfl, col', h', f'⟩
    refine ⟨rfl, col', ?_, f1.trans f'⟩
    have e : put (dropS st key).now = put st.now := by rw [dropS_now]
    rw [e] at h'
    exact h'⟩
  cases hdd : st.due key with
  | none =>
    have hh : Maps.has D kl = false := by rw [(h.du.2 key kl hkey).1.1, hdd]; rfl
    have hs : Maps.size D = st.cnt := h.du.1
    have hlt : ¬ 200 ≤ Maps.size D := by rw [hs]; exact fun e => hz ⟨hdd, e⟩
    have hcb : decide ((200 : Int) ≤ (Maps.size D : Int)) = false := decide_eq_false (by omega)
    have hcb2 : decide (200 ≤ Maps.size D) = false := decide_eq_false hlt
    have hlen := HO.out.len Try.underlying58
    clear hkey h h0 hd hdd hsz hx hy hz hs hnow hcnt hfar
    go_enter Try.func10, Try.ntmps10
    go_wp2_with (first | (go_at_call 26; refine hn.mono ?_; rintro e w' ⟨rfl, rfl⟩) | (at_lookup; refine wpList_lookup_own_ok_int _ rfl _ _ 58 rfl 9 3 .i64 keyLaw Try.underlying58 Try.underlying3 (zeroE _) bm st.cnt D rfl HO.out _ kl rfl HK.out ?_; intro c hat hwc; rw [hh]; have HA := Aside0.mk hat; clear hat hwc) | (go_at_call 20; refine HDR.out.mono ?_; rintro e w1 ⟨rfl, col1, ⟨D1, cs1, h1⟩, f1⟩; obtain ⟨k1, k2, k3, k4⟩ := HN.out w1 col1 D1 cs1 h1 f1; have K4 := Aside0.mk (And.intro k2 (And.intro k3 k4)); clear k2 k3 k4 h1 f1) | (at_mapUpdate; refine wpList_mapUpdate_in _ rfl _ _ _ 58 rfl 9 3 keyLaw Try.underlying58 _ bm _ D1 rfl K4.out.2.1 K4.out.1 _ _ kl rfl rfl HK.out _ [] HVAL.out ?_; intro w2 hown2 hturn2; have K5 := Aside0.mk (K4.out.2.2 w2 hown2 hturn2); clear hown2 hturn2) | (go_at_call 27; refine K5.out.mono ?_; rintro e w3 ⟨rfl, hw3⟩; have K6 := Aside0.mk hw3; clear hw3))
    all_goals
      go_ret
      exact ⟨rfl, K6.out⟩
  | some c0 =>
    have hh : Maps.has D kl = true := by rw [(h.du.2 key kl hkey).1.1, hdd]; rfl
    have HA := Aside0.mk ((h.du.2 key kl hkey).1.2 c0 hdd)
    have hca : (c0 = a) = False := eq_false (fun e => hd (by rw [hdd, e]))
    have hcab : (c0 == a) = false := beq_eq_false_iff_ne.2 (fun e => hd (by rw [hdd, e]))
    clear hkey h h0 hd hdd hsz hx hy hz hnow hcnt hfar
    go_enter Try.func10, Try.ntmps10
    go_wp2_with (first | (go_at_call 26; refine hn.mono ?_; rintro e w' ⟨rfl, rfl⟩) | (at_lookup; refine wpList_lookup_own_ok_int _ rfl _ _ 58 rfl 9 3 .i64 keyLaw Try.underlying58 Try.underlying3 (zeroE _) bm st.cnt D rfl HO.out _ kl rfl HK.out ?_; intro c hat hwc; rw [hh]; obtain rfl : c = c0 := (by rw [HA.out] at hat; injection hat with hat; injection hat with _ hat; exact hat.symm); clear hat hwc) | (go_at_call 20; refine HDR.out.mono ?_; rintro e w1 ⟨rfl, col1, ⟨D1, cs1, h1⟩, f1⟩; obtain ⟨k1, k2, k3, k4⟩ := HN.out w1 col1 D1 cs1 h1 f1; have K4 := Aside0.mk (And.intro k2 (And.intro k3 k4)); clear k2 k3 k4 h1 f1) | (at_mapUpdate; refine wpList_mapUpdate_in _ rfl _ _ _ 58 rfl 9 3 keyLaw Try.underlying58 _ bm _ D1 rfl K4.out.2.1 K4.out.1 _ _ kl rfl rfl HK.out _ [] HVAL.out ?_; intro w2 hown2 hturn2; have K5 := Aside0.mk (K4.out.2.2 w2 hown2 hturn2); clear hown2 hturn2) | (go_at_call 27; refine K5.out.mono ?_; rintro e w3 ⟨rfl, hw3⟩; have K6 := Aside0.mk hw3; clear hw3))
    all_goals
      go_ret
      exact ⟨rfl, K6.out⟩
/-- Set, whatever it is asked. -/
theorem set_calls {w : World} {base : Nat} {col : Nat → Nat} {b bm : Nat} {st : St} (h : WI w base col b bm st) (key : ByteArray) (a : Int) {kl : Lit} (hkey : keyOf Try.prog 9 (.string key) = some kl)
    (hnow : 0 ≤ st.now) (hcnt : st.cnt ≤ 1000) (hlen : Few st 1000) :
    Calls Try.prog 10 #[.pointer (some ⟨b, 0, none⟩), .string key, .int .i64 a] w fun e w' => e = .returned (.int .i64 (setE st key a)) ∧ ∃ col', WI w' base col' b bm (setS st key a) ∧ Fr w w' base col col' b bm := by
  by_cases h0 : setE st key a = 0
  · by_cases hd : st.due key = some a
    · obtain ⟨D, cs, h'⟩ := h
      refine (set_as h' key a hkey h0 hd).mono ?_
      rintro e w' ⟨rfl, rfl⟩
      refine ⟨by rw [h0], col, ?_, Fr.refl _ _ _ _ _⟩
      unfold setS
      rw [if_neg (fun e => e.2 hd)]
      exact ⟨D, cs, h'⟩
    · refine (set_yes h key a hkey h0 hd hnow hcnt hlen).mono ?_
      rintro e w' ⟨rfl, col', h', f⟩
      refine ⟨by rw [h0], col', ?_, f⟩
      unfold setS
      rw [if_pos ⟨h0, hd⟩]
      exact h'
  · obtain ⟨D, cs, h'⟩ := h
    refine (set_no h' key a hkey h0).mono ?_
    rintro e w' ⟨rfl, rfl⟩
    refine ⟨rfl, col, ?_, Fr.refl _ _ _ _ _⟩
    unfold setS
    rw [if_neg (fun e => h0 e.1)]
    exact ⟨D, cs, h'⟩
end Go.Proofs.Ytcknocglaimcpaa.WA

/- All. -/
import Derived.Test.YtcknocglaimcpaaWhZa
import Derived.Maps.RangeWalk
namespace Go.Proofs.Ytcknocglaimcpaa.WA
open Go.RowKit Go.Proofs.YtcknocglaimcpaaW.PrintWords Go.Proofs.YtcknocglaimcpaaW.PrintLast Go.Proofs.YtcknocglaimcpaaW.PrintMore
open Go.Proofs.Ytcknocglaimcpaa.PW Go.Proofs.Ytcknocglaimcpaa.Wh Go.Maps
set_option linter.unusedVariables false
set_option linter.unusedSimpArgs false
set_option maxHeartbeats 8000000
set_option maxRecDepth 100000
theorem inv_key (key : Value) (kl : Lit) (h : keyOf Try.prog 9 key = some kl) : ∃ x : ByteArray, key = .string x := by
  have hk := Try.underlying9
  cases key <;> simp [keyOf, hk, mapKey] at h
  exact ⟨_, rfl⟩
theorem inv_elem (v : Value) (y : DataW Unit × List MemPlace) (h : plainElem (H := Unit) Try.prog 3 v = some y) : ∃ c : Int, v = .int .i64 c := by
  obtain ⟨c, rfl, _⟩ := plainElem_int_inv Try.underlying3 h
  exact ⟨c, rfl⟩
/-- What has come so far, beside what is left. -/
structure Com (due : ByteArray → Option Int) (left : Lit → Bool) (xs : List Tm) : Prop where
  du : ∀ t ∈ xs, due t.1 = some t.2
  ms : ∀ (k : ByteArray) (kl : Lit) (a : Int), keyOf Try.prog 9 (.string k) = some kl → due k = some a → left kl = false → (k, a) ∈ xs
  no : ∀ (k : ByteArray) (kl : Lit), keyOf Try.prog 9 (.string k) = some kl → left kl = true → ∀ t ∈ xs, t.1 ≠ k
  nd : xs.Nodup
theorem com_start {D : DataW Unit} {due : ByteArray → Option Int} {cnt : Nat} (h : dueIs D due cnt) : Com due (Maps.has D) [] :=
  ⟨fun t ht => absurd ht (by simp), fun k kl a hk hd hl => (by rw [(h.2 k kl hk).1.1, hd] at hl; exact absurd hl (by simp)), fun k kl hk hl t ht => absurd ht (by simp), List.nodup_nil⟩
theorem com_step {D : DataW Unit} {due : ByteArray → Option Int} {cnt : Nat} (h : dueIs D due cnt) {left : Lit → Bool} {xs : List Tm} (hc : Com due left xs) {x : ByteArray} {c : Int} {kl : Lit} {y : DataW Unit × List MemPlace}
    (hkey : keyOf Try.prog 9 (.string x) = some kl) (hl : left kl = true) (hy : plainElem (H := Unit) Try.prog 3 (.int .i64 c) = some y) (hat : ∀ zd, D.atKey kl zd = y.1) : due x = some c ∧ Com due (fun z => left z && !z.sameKey kl) (xs ++ [(x, c)]) := by
  have hhas : Maps.has D kl = true := has_true_of_atKey hat
  have hd : due x = some c := by
    have h1 := (h.2 x kl hkey).1.1
    rw [hhas] at h1
    cases hdx : due x with
    | none => rw [hdx] at h1; cases h1
    | some a =>
      have h2 := (h.2 x kl hkey).1.2 a hdx
      rw [hat] at h2
      obtain ⟨c', e1, e2, _⟩ := plainElem_int_inv Try.underlying3 hy
      injection e1 with _ e1
      rw [e2] at h2
      have h2 : (DataW.lit (Lit.int .i64 c') : DataW Unit) = .lit (.int .i64 a) := h2
      injection h2 with h2
      injection h2 with _ h2
      rw [e1, h2]
  refine ⟨hd, ?_, ?_, ?_, ?_⟩
  · intro t ht
    rcases List.mem_append.1 ht with ht | ht
    · exact hc.du t ht
    · obtain rfl := List.mem_singleton.1 ht
      exact hd
  · intro k kl' a hk hdk hlk
    by_cases e : k = x
    · subst e
      rw [hd] at hdk
      obtain rfl := Option.some.inj hdk
      exact List.mem_append.2 (.inr (List.mem_singleton.2 rfl))
    · refine List.mem_append.2 (.inl (hc.ms k kl' a hk hdk ?_))
      have hne : kl' ≠ kl := fun e' => e ((key_ne hkey hk).1 e')
      have hs : kl'.sameKey kl = false := sameKey_ne hne
      have hlk : (left kl' && !kl'.sameKey kl) = false := hlk
      rw [hs] at hlk
      simpa using hlk
  · intro k kl' hk hlk t ht
    have hlk : (left kl' && !kl'.sameKey kl) = true := hlk
    rw [Bool.and_eq_true] at hlk
    rcases List.mem_append.1 ht with ht | ht
    · exact hc.no k kl' hk hlk.1 t ht
    · obtain rfl := List.mem_singleton.1 ht
      intro e
      have e : x = k := e
      subst e
      rw [hk] at hkey
      obtain rfl := Option.some.inj hkey
      rw [WideAt.sameKey_self (keyLaw.key hk)] at hlk
      exact absurd hlk.2 (by decide)
  · rw [List.nodup_append]
    refine ⟨hc.nd, by simp, ?_⟩
    intro a ha b hb e
    obtain rfl := List.mem_singleton.1 hb
    exact hc.no x kl hkey hl a ha (by rw [e])
theorem com_end {st : St} {L : List Tm} (hr : Rel st L) (hL : Sm L) {left : Lit → Bool} {xs : List Tm} (hc : Com st.due left xs) (hl : ∀ kl, left kl = false) : sortT xs = L := by
  refine so_eq _ _ (sortT_so xs hc.nd) hr.so (fun t => ?_)
  rw [sortT_mem]
  constructor
  · intro ht
    exact (hr.du t.1 t.2).1 (hc.du t ht)
  · intro ht
    obtain ⟨kl, hkl⟩ := key_of (hL.2 t ht)
    exact hc.ms t.1 kl t.2 hkl ((hr.du t.1 t.2).2 ht) (hl kl)
theorem nodup_len : ∀ (l m : List Tm), l.Nodup → (∀ t ∈ l, t ∈ m) → l.length ≤ m.length
  | [], _, _, _ => Nat.zero_le _
  | t :: l, m, hn, hs => by
    have hn' := List.nodup_cons.1 hn
    obtain ⟨m1, m2, rfl⟩ := List.append_of_mem (hs t (List.mem_cons_self ..))
    have ih := nodup_len l (m1 ++ m2) hn'.2 (fun u hu => by
      have h1 := hs u (List.mem_cons_of_mem _ hu)
      rw [List.mem_append, List.mem_cons] at h1
      rw [List.mem_append]
      rcases h1 with h1 | rfl | h1
      · exact .inl h1
      · exact absurd hu hn'.1
      · exact .inr h1)
    rw [List.length_append] at ih
    rw [List.length_append, List.length_cons, List.length_cons]
    omega
theorem com_len {st : St} {L : List Tm} (hr : Rel st L) {left : Lit → Bool} {xs : List Tm} (hc : Com st.due left xs) : xs.length ≤ L.length := nodup_len xs L hc.nd (fun t ht => (hr.du t.1 t.2).1 (hc.du t ht))
/-- A step of All's loop: the row is longer. -/
theorem all_step {w wr w1 : World} {base : Nat} {col colr : Nat → Nat} {b bm r : Nat} {st : St} {v : Value} {ys zs : List S38}
    (h : WI wr base colr b bm st) (hf : Fr w wr base col colr b bm) (hR : k38.R 38 wr w.heap.size (fun g => colr g = 203) v ys) (hbase : base ≤ w.heap.size) (hr : w.heap.size ≤ r) (hrc : colr r = 202)
    (hg1 : wr.grownBy w1 (some r)) (hs1 : w1.heap.size = wr.heap.size) :
    k38.R 38 w1 w.heap.size (fun g => colr g = 203 ∨ w1.heap.size ≤ g) v ys ∧ ∀ v1 w5, k38.R 38 w5 w.heap.size (fun g => colr g = 203 ∨ w1.heap.size ≤ g) v1 zs → w1.grownBy w5 v.ownBlock → some bm ≠ v.ownBlock ∧ some r ≠ v.ownBlock ∧ w.heap.size ≤ w5.heap.size ∧ WI w5 base (newCol w1 colr 203) b bm st ∧ Fr w w5 base col (newCol w1 colr 203) b bm ∧ newCol w1 colr 203 r = (if r < w1.heap.size then 202 else 203) ∧ k38.R 38 w5 w.heap.size (fun g => newCol w1 colr 203 g = 203) v1 zs := by
  obtain ⟨D', cs, h⟩ := h
  have hcb := h.cb
  have hcm := h.cm
  have hvo : ∀ g, some g = v.ownBlock → colr g = 203 ∧ w.heap.size ≤ g ∧ g < wr.heap.size := fun g e => ⟨(Kd.R_bound hR).1 g e.symm |>.1, (Kd.R_bound hR).1 g e.symm |>.2.1, (Kd.R_bound hR).1 g e.symm |>.2.2.1⟩
  have hR1 : k38.R 38 w1 w.heap.size (fun g => colr g = 203) v ys := Kd.R_step hR (fun g (hc : colr g = 203) hlt => hg1.block g hlt (fun e => by obtain rfl := Option.some.inj e; omega))
  refine ⟨Kd.R_mono hR1 (fun g hg => .inl hg), ?_⟩
  intro v1 w5 hR5 hg5
  have hsz := hg5.size
  have hk : ∀ g, g < wr.heap.size → g ≠ r → colr g ≠ 203 → w5.heap[g]? = wr.heap[g]? := fun g hlt hgr hc => (hg5.block g (by omega) (fun e => hc (hvo g e).1)).trans (hg1.block g hlt (fun e => hgr (Option.some.inj e)))
  have hbr : b ≠ r := fun e => by rw [e] at hcb; omega
  have hmr : bm ≠ r := fun e => by rw [e] at hcm; omega
  refine ⟨fun e => by have := (hvo bm e).1; omega, fun e => by have := (hvo r e).1; omega, by have := hf.bl.size; omega, ?_, ⟨?_, ?_, ?_⟩, ?_, ?_⟩
  · refine (h.stay (by omega) (fun g hlt hc => hk g hlt ?_ ?_) (fun g hlt => newCol_lt (by omega))).wi
    · rintro rfl
      rcases hc with hc | hc | hc <;> omega
    · rcases hc with hc | rfl | rfl <;> omega
  · refine below_trans hf.bl ⟨hg5.os.trans hg1.os, hg5.tape.trans hg1.tape, hg5.output.trans hg1.output, by omega, fun g hlt => ?_⟩
    have hbl := h.base_le
    exact (hg5.block g (by omega) (fun e => by have := (hvo g e).2.1; omega)).trans (hg1.block g (by omega) (fun e => by obtain rfl := Option.some.inj e; omega))
  · intro g hlt hc
    have := hf.bl.size
    rw [newCol_lt (by omega)]
    exact hf.co g hlt hc
  · intro g hlt hc hgb hgm
    have := hf.bl.size
    have h1 := hf.co g hlt hc
    exact ((hg5.block g (by omega) (fun e => by have := (hvo g e).2.1; omega)).trans (hg1.block g (by omega) (fun e => by obtain rfl := Option.some.inj e; omega))).trans (hf.sa g hlt hc hgb hgm)
  · unfold newCol
    split
    · exact hrc
    · rfl
  · refine Kd.R_mono hR5 ?_
    rintro g (hc | hc)
    · by_cases hlt : g < w1.heap.size
      · exact (newCol_lt hlt).trans hc
      · exact newCol_ge hlt
    · exact newCol_ge (by omega)
theorem all_calls {w : World} {base : Nat} {col : Nat → Nat} {b bm : Nat} {st : St} {L : List Tm} (h : WI w base col b bm st) (hr : Rel st L) (hL : Sm L) :
    Calls Try.prog 13 #[.pointer (some ⟨b, 0, none⟩)] w fun e w' => ∃ v col', e = .returned v ∧ k38.R 38 w' w.heap.size (fun g => col' g = 203) v (L.map ofT) ∧ WI w' base col' b bm st ∧ Fr w w' base col col' b bm := by
  have hu := Try.underlying62
  obtain ⟨D, cs, hw⟩ := h
  have hn := none_at w b true (hw.cell hw.c0)
  have c2 := hw.cell hw.c2
  have HO := Aside0.mk hw.mp
  have HW := Aside0.mk hw
  have HR := Aside0.mk (And.intro hr hL)
  have HB0 := Aside0.mk hw.base_le
  clear hw hr hL
  go_enter Try.func13, Try.ntmps13
  go_wp2_with (first | (go_at_call 26; refine hn.mono ?_; rintro e w' ⟨rfl, rfl⟩) | (at_range; refine wpList_range_own _ rfl _ 58 rfl 9 3 keyLaw Try.underlying58 _ bm st.cnt D rfl HO.out ?_; intro w0 hrg0 hg0 hs0; have N0 := Aside0.mk (And.intro hrg0 (And.intro hg0 hs0)); clear hrg0 hg0 hs0))
  go_frame
  have HQ : Aside0 (w0.ranges Try.prog 9 (plainElem (H := Unit) Try.prog 3) bm w'.heap.size st.cnt D (Maps.has D) (Maps.size D) ∧ WI w0 base (newCol w' col 202) b bm st ∧ Fr w' w0 base col (newCol w' col 202) b bm ∧ newCol w' col 202 w'.heap.size = 202) := ⟨by
    have hb0 : Below w'.heap.size w' w0 := ⟨N0.out.2.1.os, N0.out.2.1.tape, N0.out.2.1.output, N0.out.2.1.size, fun g hg => N0.out.2.1.block g hg (by simp)⟩
    obtain ⟨q1, q2⟩ := HW.out.grow hb0 202
    exact ⟨N0.out.1, q1.wi, q2, newCol_ge (by omega)⟩⟩
  have HDU := Aside0.mk HW.out.du
  generalize hr0 : w'.heap.size = r at HQ ⊢
  have HR0 := Aside0.mk hr0
  clear hr0 N0 hn c2 HO HW
  go_loopg [3] (Maps.size D) (fun kq v3 w2 => ∃ (left : Lit → Bool) (cnt : Nat) (xs : List Tm) (colr : Nat → Nat), Aside0 (cnt ≤ kq) ∧ Aside0 (w2.ranges Try.prog 9 (plainElem (H := Unit) Try.prog 3) bm r st.cnt D left cnt ∧ WI w2 base colr b bm st ∧ Fr w' w2 base col colr b bm ∧ colr r = 202 ∧ k38.R 38 w2 w'.heap.size (fun g => colr g = 203) v3 (xs.map ofT) ∧ Com st.due left xs))
  case atStart => exact ⟨_, _, [], _, ⟨Nat.le_refl _⟩, ⟨HQ.out.1, HQ.out.2.1, HQ.out.2.2.1, HQ.out.2.2.2, Kd.R_nil _ _ _ _ _, com_start HDU.out⟩⟩
  case round =>
    obtain ⟨left, cnt, xs, colr, HI, HS⟩ := hrel
    have HXL : Aside0 (xs.length ≤ 1000) := ⟨by have h1 := com_len HR.out.1 HS.out.2.2.2.2.2; have := HR.out.2.1; omega⟩
    have HSO := Aside0.mk (sort_calls wr w'.heap.size (fun g => colr g = 203 ∧ g < wr.heap.size) u3 xs (Kd.R_mono (Kd.R_bound HS.out.2.2.2.2.1) (fun g ⟨h1, _, h2, _⟩ => ⟨h1, h2⟩)) HS.out.2.2.2.2.2.nd (by have := HXL.out; omega))
    have HEND : Aside0 ((∀ kl, left kl = false) → ∀ w7, k38.R 38 w7 w'.heap.size (fun g => colr g = 203 ∧ g < wr.heap.size) u3 ((sortT xs).map ofT) → wr.grownBy w7 u3.ownBlock → ∃ col', k38.R 38 w7 w'.heap.size (fun g => col' g = 203) u3 (L.map ofT) ∧ WI w7 base col' b bm st ∧ Fr w' w7 base col col' b bm) := ⟨by
      intro hl w7 r7 g7
      obtain ⟨_, ⟨D2, cs2, h2⟩, f2, _, r2, c2⟩ := HS.out
      rw [com_end HR.out.1 HR.out.2 c2 hl] at r7
      have hcb := h2.cb
      have hcm := h2.cm
      have hvo : ∀ g, some g = u3.ownBlock → colr g = 203 ∧ w'.heap.size ≤ g := fun g e => ⟨(Kd.R_bound r2).1 g e.symm |>.1, (Kd.R_bound r2).1 g e.symm |>.2.1⟩
      have hsz := g7.size
      refine ⟨newCol wr colr 202, ?_, ?_, ?_, ?_, ?_⟩
      · refine Kd.R_mono r7 ?_
        rintro g ⟨hc, hlt⟩
        exact (newCol_lt hlt).trans hc
      · exact (h2.stay hsz (fun g hlt hc => g7.block g hlt (fun e => by have := (hvo g e).1; rcases hc with hc | rfl | rfl <;> omega)) (fun g hlt => newCol_lt hlt)).wi
      · exact below_trans f2.bl ⟨g7.os, g7.tape, g7.output, g7.size, fun g hlt => g7.block g (Nat.lt_of_lt_of_le hlt h2.base_le) (fun e => by have := (hvo g e).2; have := HB0.out; omega)⟩
      · intro g hlt hc
        rw [newCol_lt (Nat.lt_of_lt_of_le hlt f2.bl.size)]
        exact f2.co g hlt hc
      · intro g hlt hc hgb hgm
        exact (g7.block g (Nat.lt_of_lt_of_le hlt f2.bl.size) (fun e => by have := (hvo g e).2; omega)).trans (f2.sa g hlt hc hgb hgm)⟩
    have HSTEP : Aside0 (∀ (x : ByteArray) (c : Int) (w1 : World), wr.grownBy w1 (some r) → w1.heap.size = wr.heap.size → k38.R 38 w1 w'.heap.size (fun g => colr g = 203 ∨ w1.heap.size ≤ g) u3 (xs.map ofT) ∧ w'.heap.size ≤ w1.heap.size ∧ ∀ v1 w5, k38.R 38 w5 w'.heap.size (fun g => colr g = 203 ∨ w1.heap.size ≤ g) v1 (xs.map ofT ++ [⟨x, c⟩]) → w1.grownBy w5 u3.ownBlock →
        some bm ≠ u3.ownBlock ∧ some r ≠ u3.ownBlock ∧ WI w5 base (newCol w1 colr 203) b bm st ∧ Fr w' w5 base col (newCol w1 colr 203) b bm ∧ newCol w1 colr 203 r = 202 ∧ k38.R 38 w5 w'.heap.size (fun g => newCol w1 colr 203 g = 203) v1 ((xs ++ [(x, c)]).map ofT)) := ⟨by
      intro x c w1 hg1 hs1
      have hrlt : r < wr.heap.size := HS.out.1.lt
      obtain ⟨s1, s2⟩ := all_step (zs := xs.map ofT ++ [⟨x, c⟩]) HS.out.2.1 HS.out.2.2.1 HS.out.2.2.2.2.1 HB0.out (by rw [HR0.out]; exact Nat.le_refl _) HS.out.2.2.2.1 hg1 hs1
      refine ⟨s1, by rw [hs1]; exact HS.out.2.2.1.bl.size, fun v1 w5 a1 a2 => ?_⟩
      obtain ⟨t2, t3, t4, t5, t6, t7, t8⟩ := s2 v1 w5 a1 a2
      rw [if_pos (by omega)] at t7
      refine ⟨t2, t3, t5, t6, t7, ?_⟩
      rw [List.map_append]
      exact t8⟩
    go_wp2_with (first | (at_next; refine wpList_next_ranges _ rfl _ rfl 9 keyLaw _ (fun x : ByteArray => Value.string x) (fun c : Int => Value.int .i64 c) inv_key inv_elem bm r st.cnt D left cnt rfl HS.out.1 ?_ ?_; (intro hc0 hl0; have M0 := Aside0.mk hl0; clear hc0 hl0); rotate_left; (intro x c kl y w1 cnt1 hkx hlx hyx hatx hrg1 hlt1 hg1 hs1 hen; obtain ⟨p1, p2, p3⟩ := HSTEP.out x c w1 hg1 hs1; have M1 := Aside0.mk (And.intro hkx (And.intro hlx (And.intro hyx (And.intro hatx (And.intro hrg1 (And.intro hlt1 (And.intro p1 (And.intro p2 p3)))))))); clear hkx hlx hyx hatx hrg1 hlt1 hg1 hs1 p1 p2 p3); rotate_left) | (go_at_call 29; refine HSO.out.mono ?_; rintro e w7 ⟨rfl, hb7, hg7⟩; have N7 := Aside0.mk (HEND.out M0.out w7 hb7 hg7); clear hb7 hg7) | ((with_reducible refine gate_builtin (b := .append) (xs := #[.tmp 18, .tmp 22]) rfl ?_); at_builtin; refine Kd.R_append k38 (w0 := w1) w'.heap.size rfl (.tmp 18) (.tmp 22) 35 38 (.agg #[.string ⟨#[]⟩, .int .i64 0]) 24 rfl Try.underlying35 info38 rfl (by decide) (by omega) u3 (xs.map ofT) ⟨x, c⟩ [.string x, .int .i64 c] (fun g => colr g = 203 ∨ w1.heap.size ≤ g) (fun _ => False) rfl rfl (k38_mkM _ _ _ _) (fun _ hk => hk.elim) (fun g hg => Or.inr hg) M1.out.2.2.2.2.2.2.1 (Below.refl _ _) M1.out.2.2.2.2.2.2.2.1 ?aL ?_; (case aL => have := HXL.out; rw [List.length_map]; omega); intro v1 w5 ho hb hg hat; have N5 := Aside0.mk (And.intro hg (M1.out.2.2.2.2.2.2.2.2 v1 w5 ho hg)); clear ho hb hg hat))
    · go_ret
      obtain ⟨col', q1, q2, q3⟩ := N7.out
      exact ⟨_, col', rfl, q1, q2, q3⟩
    all_goals
      go_roundg (gk - 1)
      case measure => have := HI.out; have := M1.out.2.2.2.2.2.1; omega
      case rel =>
        obtain ⟨t1, t2, t3, t5, t6, t7, t8⟩ := N5.out
        obtain ⟨e1, e2⟩ := com_step HDU.out HS.out.2.2.2.2.2 M1.out.1 M1.out.2.1 M1.out.2.2.1 M1.out.2.2.2.1
        exact ⟨_, cnt1, xs ++ [(x, c)], _, ⟨by have := HI.out; have := M1.out.2.2.2.2.2.1; omega⟩, ⟨M1.out.2.2.2.2.1.kept t1 t2 t3, t5, t6, t7, t8, e2⟩⟩
end Go.Proofs.Ytcknocglaimcpaa.WA

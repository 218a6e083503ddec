/- Tick and Skip, beside the document's list. -/
import Derived.Test.YtcknocglaimcpaaWhX
namespace Go.Proofs.Ytcknocglaimcpaa.WA
open Go.RowKit Go.Proofs.YtcknocglaimcpaaW.PrintWords Go.Proofs.YtcknocglaimcpaaW.PrintLast Go.Proofs.YtcknocglaimcpaaW.PrintMore
open Go.Proofs.Ytcknocglaimcpaa.PW Go.Proofs.Ytcknocglaimcpaa.Wh Go.Maps
set_option linter.unusedVariables false
set_option linter.unusedSimpArgs false
set_option maxHeartbeats 8000000
set_option maxRecDepth 100000
theorem key_of {k : ByteArray} (h : k.size ≤ 1000) : ∃ kl, keyOf Try.prog 9 (.string k) = some kl :=
  ⟨_, WideMaps.keyOf_string_mk Try.underlying9 (by have : maxLen = 9223372036854775807 := rfl; omega)⟩
/-- The keys are short, the timers few. -/
def Sm (L : List Tm) : Prop := L.length ≤ 1000 ∧ ∀ t ∈ L, t.1.size ≤ 1000
theorem rel_len {st : St} {L : List Tm} (h : Rel st L) (hL : L.length ≤ 1000) : (flat st.slot).length ≤ 1000 := by
  have := h.fl.length_eq
  omega
theorem tick_calls {w : World} {base : Nat} {col : Nat → Nat} {b bm : Nat} {st : St} {L : List Tm} (h : WI w base col b bm st) (hr : Rel st L) (hL : Sm L) :
    Calls Try.prog 12 #[.pointer (some ⟨b, 0, none⟩)] w fun e w' => ∃ v col', e = .returned v ∧ k38.R 38 w' w.heap.size (fun g => col' g = 203) v ((tickO st).map ofT) ∧ WI w' base col' b bm (tickS st) ∧ Fr w w' base col col' b bm := by
  by_cases hf : st.now < far
  case neg =>
    refine (tick_far h (by omega)).mono ?_
    rintro e w' ⟨rfl, rfl⟩
    have e1 : tickS st = st := by unfold tickS; rw [if_pos (by omega)]
    have e2 : tickO st = [] := by unfold tickO; rw [if_pos (by omega)]
    rw [e1, e2]
    exact ⟨_, col, rfl, Kd.R_nil _ _ _ _ _, h, Fr.refl _ _ _ _ _⟩
  · obtain ⟨t1, t2, t3⟩ := tick_ok st.now hr.lo st.slot hr.inv
    have hall := t3.trans hr.fl
    have hNd : (flat (upd (fall (st.now + 1) 5 1 st.slot) 0 (idx 0 (st.now + 1)) []) ++ fall (st.now + 1) 5 1 st.slot 0 (idx 0 (st.now + 1))).Nodup := hall.nodup_iff.2 (so_nodup hr.so)
    have hmem : ∀ t ∈ fall (st.now + 1) 5 1 st.slot 0 (idx 0 (st.now + 1)), t ∈ L := fun t ht => hall.mem_iff.1 (List.mem_append.2 (.inr ht))
    have hG : G (st.now + 1) 1 st.slot := by
      intro l k t hl hk ht
      obtain ⟨g1, g2, g3, g4⟩ := hr.inv l k t hl hk ht
      refine ⟨by omega, g2, g3, fun hlt => ?_, fun _ => by rw [show st.now + 1 - 1 = st.now by omega]; exact g4⟩
      obtain rfl : l = 0 := by omega
      unfold pl at g4 ⊢
      simp only [sp, Int.ediv_one, true_or, and_true] at g4 ⊢
      omega
    have hnd := (List.nodup_append.1 hNd).2.1
    have hl1 := hall.length_eq
    rw [List.length_append] at hl1
    refine tick_near h hr.lo hf (st.now + 1) rfl hG (rel_len hr hL.1) (idx 0 (st.now + 1)) rfl _ rfl hnd ?_ ?_ ?_ (by have := hL.1; omega)
    · intro t ht
      rw [(hr.du t.1 t.2).2 (hmem t ht)]
      rfl
    · refine List.Pairwise.imp_of_mem ?_ hnd
      intro a b ha hb hab e
      obtain ⟨k, x⟩ := a
      obtain ⟨k', y⟩ := b
      have e : k = k' := e
      subst e
      exact hab (by rw [hr.one (hmem _ ha) (hmem _ hb)])
    · intro t ht
      exact key_of (hL.2 t (hmem t ht))
theorem rel_tick' {st : St} {L : List Tm} (h : Rel st L) (hL : Sm L) : ∃ L', Rel (tickS st) L' ∧ Sm L' := by
  by_cases hf : st.now < far
  · obtain ⟨r1, _, _⟩ := rel_tick h hf
    exact ⟨_, r1, by rw [List.length_drop]; have := hL.1; omega, fun t ht => hL.2 t (List.mem_of_mem_drop ht)⟩
  · have e1 : tickS st = st := by unfold tickS; rw [if_pos (by omega)]
    rw [e1]
    exact ⟨L, h, hL⟩
theorem skip_bad {w : World} {base : Nat} {col : Nat → Nat} {b bm : Nat} {st : St} (h : WI w base col b bm st) (n : Int) (hn : n < 0 ∨ 100000 < n) :
    Calls Try.prog 16 #[.pointer (some ⟨b, 0, none⟩), .int .i64 n] w fun e w' => e = .returned (.tuple #[.slice none 0 0, .int .i64 2]) ∧ w' = w := by
  obtain ⟨D, cs, h⟩ := h
  have hn1 := none_at w b true (h.cell h.c0)
  clear h
  by_cases h1 : n < 0
  · have h1b : decide (n < 0) = true := decide_eq_true h1
    clear hn
    go_enter Try.func16, Try.ntmps16
    go_wp2_with (go_at_call 26; refine hn1.mono ?_; rintro e w' ⟨rfl, rfl⟩)
    go_ret2
    exact ⟨rfl, rfl⟩
  · have h1b : decide (n < 0) = false := decide_eq_false h1
    have h2b : decide (100000 < n) = true := decide_eq_true (by omega)
    clear hn
    go_enter Try.func16, Try.ntmps16
    go_wp2_with (go_at_call 26; refine hn1.mono ?_; rintro e w' ⟨rfl, rfl⟩)
    go_ret2
    exact ⟨rfl, rfl⟩
/-- A step of Skip's loop: the row has what came, behind what was there. -/
theorem skip_step {w wr w1 : World} {base : Nat} {col colr col1 : Nat → Nat} {b bm : Nat} {st' : St} {v : Value} {xs : List S38} (ys : List S38) (hbase : base ≤ w.heap.size)
    (hf : Fr w wr base col colr b bm) (hR : k38.R 38 wr w.heap.size (fun g => colr g = 203) v xs)
    (h1 : WI w1 base col1 b bm st') (f1 : Fr wr w1 base colr col1 b bm) :
    k38.R 38 w1 w.heap.size (fun g => col1 g = 203) v xs ∧ ∀ v2 w2, k38.R 38 w2 w.heap.size (fun g => col1 g = 203 ∨ w1.heap.size ≤ g) v2 ys → w1.grownBy w2 v.ownBlock → ∃ col2, WI w2 base col2 b bm st' ∧ Fr w w2 base col col2 b bm ∧ k38.R 38 w2 w.heap.size (fun g => col2 g = 203) v2 ys := by
  obtain ⟨D, cs, h1⟩ := h1
  have hcb := h1.cb
  have hcm := h1.cm
  have hbd := (Kd.R_bound hR).1
  have hR1 : k38.R 38 w1 w.heap.size (fun g => col1 g = 203) v xs := by
    refine R_col hR f1.bl.size ?_ ?_
    · intro g hlt (hc : colr g = 203)
      have hc1 := f1.co g hlt (by omega)
      exact f1.sa g hlt (by omega) (fun e => by rw [← e] at hcb; omega) (fun e => by rw [← e] at hcm; omega)
    · intro g hlt (hc : colr g = 203)
      rw [f1.co g hlt (by omega)]; exact hc
  refine ⟨hR1, ?_⟩
  intro v2 w2 hR2 hg
  have hvo : ∀ g, some g = v.ownBlock → col1 g = 203 ∧ w.heap.size ≤ g := fun g e => ⟨(Kd.R_bound hR1).1 g e.symm |>.1, (Kd.R_bound hR1).1 g e.symm |>.2.1⟩
  have hsz := hg.size
  refine ⟨newCol w1 col1 203, (h1.stay hsz (fun g hlt hc => hg.block g hlt (fun e => by
    have := (hvo g e).1
    rcases hc with hc | rfl | rfl <;> omega)) (fun g hlt => newCol_lt hlt)).wi, ⟨?_, ?_, ?_⟩, ?_⟩
  · refine below_trans (below_trans hf.bl f1.bl) ⟨hg.os, hg.tape, hg.output, hg.size, fun g hlt => hg.block g (Nat.lt_of_lt_of_le hlt h1.base_le) (fun e => by have := (hvo g e).2; omega)⟩
  · intro g hlt hc
    have hg1 := Nat.lt_of_lt_of_le hlt hf.bl.size
    have e1 := hf.co g hlt hc
    rw [newCol_lt (Nat.lt_of_lt_of_le hg1 f1.bl.size), f1.co g hg1 (by omega)]
    exact e1
  · intro g hlt hc hgb hgm
    have hg1 := Nat.lt_of_lt_of_le hlt hf.bl.size
    have e1 := hf.co g hlt hc
    rw [hg.block g (Nat.lt_of_lt_of_le hg1 f1.bl.size) (fun e => by have := (hvo g e).2; omega), f1.sa g hg1 (by omega) hgb hgm]
    exact hf.sa g hlt hc hgb hgm
  · refine Kd.R_mono hR2 ?_
    rintro g (hc | hc)
    · by_cases hlt : g < w1.heap.size
      · show newCol _ _ _ g = _
        rw [newCol_lt hlt]; exact hc
      · exact newCol_ge hlt
    · exact newCol_ge (by omega)
theorem skip_calls {w : World} {base : Nat} {col : Nat → Nat} {b bm : Nat} {st : St} {L : List Tm} (h : WI w base col b bm st) (hr : Rel st L) (hL : Sm L) (n : Nat) (hn : n ≤ 100000) :
    Calls Try.prog 16 #[.pointer (some ⟨b, 0, none⟩), .int .i64 n] w fun e w' => ∃ v col', e = .returned (.tuple #[v, .int .i64 0]) ∧ k38.R 38 w' w.heap.size (fun g => col' g = 203) v ((skipO n st).map ofT) ∧ WI w' base col' b bm (skipS n st) ∧ Fr w w' base col col' b bm := by
  have hn1 : Calls Try.prog 26 #[.pointer (some ⟨b, 0, none⟩)] w fun e w' => e = .returned (.bool false) ∧ w' = w := by
    obtain ⟨D, cs, h⟩ := h
    exact none_at w b true (h.cell h.c0)
  have h1b : decide ((n : Int) < 0) = false := decide_eq_false (by omega)
  have h2b : decide (100000 < (n : Int)) = false := decide_eq_false (by omega)
  have HB0 : Aside0 (base ≤ w.heap.size) := ⟨by obtain ⟨D, cs, h⟩ := h; exact h.base_le⟩
  have HST := Aside0.mk (show (WI w base col b bm st ∧ Rel st L ∧ Sm L ∧ skipO n st = skipO n st ∧ skipS n st = skipS n st) from ⟨h, hr, hL, rfl, rfl⟩)
  have HT : Aside0 ((skipO n st).length ≤ 1000) := ⟨by
    rw [(rel_skip n hr).2.1, List.length_take]
    have := hL.1
    omega⟩
  have HN := Aside0.mk hn
  clear h hr hL hn
  go_enter Try.func16, Try.ntmps16
  go_wp2_with (go_at_call 26; refine hn1.mono ?_; rintro e w' ⟨rfl, rfl⟩)
  go_loopg [6, 18] n (fun kq v6 v18 w2 => ∃ (i : Nat) (si : St) (Li xs : List Tm) (colr : Nat → Nat), v18 = .int .i64 i ∧ Aside0 (i + kq = n) ∧ Aside0 (WI w2 base colr b bm si ∧ Rel si Li ∧ Sm Li ∧ Fr w' w2 base col colr b bm ∧ k38.R 38 w2 w'.heap.size (fun g => colr g = 203) v6 (xs.map ofT) ∧ xs ++ skipO (n - i) si = skipO n st ∧ skipS (n - i) si = skipS n st))
  case atStart => exact ⟨0, st, L, [], col, rfl, ⟨by omega⟩, ⟨HST.out.1, HST.out.2.1, HST.out.2.2.1, Fr.refl _ _ _ _ _, Kd.R_nil _ _ _ _ _, rfl, rfl⟩⟩
  case round =>
    obtain ⟨i, si, Li, xs, colr, rfl, HI, HS⟩ := hrel
    by_cases hil : i < n
    case neg =>
      have hib : decide (i < n) = false := decide_eq_false hil
      have hi : n - i = 0 := by omega
      clear hil
      go_wp2
      go_ret2
      refine ⟨_, colr, rfl, ?_, ?_, HS.out.2.2.2.1⟩
      · have e := HS.out.2.2.2.2.2.1
        rw [hi] at e
        have e : xs = skipO n st := by rw [← e]; exact (List.append_nil _).symm
        rw [← e]
        exact HS.out.2.2.2.2.1
      · have e := HS.out.2.2.2.2.2.2
        rw [hi] at e
        have e : si = skipS n st := e
        rw [← e]
        exact HS.out.1
    have hib : decide (i < n) = true := decide_eq_true hil
    have E7 : Aside0 (wrap64 ((i : Int) + 1) = ((i + 1 : Nat) : Int)) := ⟨by have := HN.out; rw [wrap64_is (by omega) (by omega)]; omega⟩
    obtain ⟨f, hfi⟩ : ∃ f, n - i = f + 1 := ⟨n - i - 1, by omega⟩
    have HF := Aside0.mk hfi
    have HE : Aside0 ((xs ++ tickO si) ++ skipO f (tickS si) = skipO n st ∧ skipS f (tickS si) = skipS n st) := ⟨by
      have e1 := HS.out.2.2.2.2.2.1
      have e2 := HS.out.2.2.2.2.2.2
      rw [hfi] at e1 e2
      rw [List.append_assoc]
      exact ⟨e1, e2⟩⟩
    have HLE : Aside0 (xs.length + (tickO si).length ≤ 1000) := ⟨by
      have := congrArg List.length HE.out.1
      rw [List.length_append, List.length_append] at this
      have h2 := HT.out
      omega⟩
    have htick := tick_calls HS.out.1 HS.out.2.1 HS.out.2.2.1
    have HIL := Aside0.mk hil
    clear hil hfi
    have HSS : Aside0 (∀ w1 col1, WI w1 base col1 b bm (tickS si) → Fr wr w1 base colr col1 b bm → k38.R 38 w1 w'.heap.size (fun g => col1 g = 203) u6 (xs.map ofT) ∧ w'.heap.size ≤ w1.heap.size ∧ ∀ v2 w2, k38.R 38 w2 w'.heap.size (fun g => col1 g = 203 ∨ w1.heap.size ≤ g) v2 (xs.map ofT ++ (tickO si).map ofT) → w1.grownBy w2 u6.ownBlock →
        ∃ col2, WI w2 base col2 b bm (tickS si) ∧ Fr w' w2 base col col2 b bm ∧ k38.R 38 w2 w'.heap.size (fun g => col2 g = 203) v2 ((xs ++ tickO si).map ofT)) := ⟨by
      intro w1 col1 h1 f1
      obtain ⟨s1, s2⟩ := skip_step (xs.map ofT ++ (tickO si).map ofT) HB0.out HS.out.2.2.2.1 HS.out.2.2.2.2.1 h1 f1
      refine ⟨s1, Nat.le_trans HS.out.2.2.2.1.bl.size f1.bl.size, fun v2 w2 a1 a2 => ?_⟩
      rw [List.map_append]
      exact s2 v2 w2 a1 a2⟩
    go_wp2_with (first | (go_at_call 12; refine htick.mono ?_; rintro e w1 ⟨vt, col1, rfl, r1, h1, f1⟩; obtain ⟨A1, C1, e1⟩ := Kd.R_slice r1; subst e1; rw [List.length_map] at r1; obtain ⟨s1, s2, s3⟩ := HSS.out w1 col1 h1 f1; have N1 := Aside0.mk (And.intro r1 (And.intro s1 (And.intro s2 s3))); clear r1 h1 f1 s1 s2 s3) | ((with_reducible refine gate_builtin (b := .append) (xs := #[.tmp 20, .tmp 22]) rfl ?_); at_builtin; refine Kd.R_append_rows k38 (Rr := k38.K w1) (w0 := w1) w'.heap.size rfl (.tmp 20) (.tmp 22) 35 38 (.agg #[.string ⟨#[]⟩, .int .i64 0]) 24 rfl Try.underlying35 info38 rfl (by decide) (by omega) u6 (xs.map ofT) ((tickO si).map ofT) A1 (tickO si).length C1 (fun g => col1 g = 203 ∨ w1.heap.size ≤ g) (fun _ => False) rfl rfl ?aO ?aR (fun x cs h => by rw [k38_open h]; exact k38_mkM _ _ _ _) (fun _ hk => hk.elim) (fun g hg => Or.inr hg) (Below.refl _ _) ?aS ?aL ?_; (case aO => exact Kd.R_mono N1.out.2.1 (fun g hg => Or.inl hg)); (case aR => have hc := (Kd.R_reads' N1.out.1).2.2; rw [List.length_map] at hc; exact hc); (case aS => exact N1.out.2.2.1); (case aL => have := HLE.out; rw [List.length_map]; omega); intro v2 w2 ho hb hg hat; have N2 := Aside0.mk (N1.out.2.2.2 v2 w2 ho hg); clear ho hb hg hat))
    all_goals
      go_roundg (n - i - 1)
      case measure => have := HI.out; have := HIL.out; omega
      case rel =>
        obtain ⟨col2, q1, q2, q3⟩ := N2.out
        obtain ⟨L', l1, l2⟩ := rel_tick' HS.out.2.1 HS.out.2.2.1
        have hf1 : n - (i + 1) = f := by have := HF.out; omega
        exact ⟨i + 1, tickS si, L', xs ++ tickO si, col2, by first | rw [E7.out] | (push_cast; rfl), ⟨by have := HI.out; have := HIL.out; omega⟩, ⟨q1, l1, l2, q2, q3, by rw [hf1]; exact HE.out.1, by rw [hf1]; exact HE.out.2⟩⟩
end Go.Proofs.Ytcknocglaimcpaa.WA

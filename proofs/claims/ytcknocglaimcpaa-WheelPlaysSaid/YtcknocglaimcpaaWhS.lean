/- fall. -/
import Derived.Test.YtcknocglaimcpaaWhR
import Derived.WalkMore
namespace Go.Proofs.Ytcknocglaimcpaa.WA
open Go.RowKit Go.Proofs.YtcknocglaimcpaaW.PrintWords Go.Proofs.YtcknocglaimcpaaW.PrintLast Go.Proofs.YtcknocglaimcpaaW.PrintMore
open Go.Proofs.Ytcknocglaimcpaa.PW Go.Proofs.Ytcknocglaimcpaa.Wh Go.Maps
set_option linter.unusedVariables false
set_option linter.unusedSimpArgs false
set_option maxHeartbeats 8000000
set_option maxRecDepth 100000
theorem fall_step (now : Int) (h0 : 1 ≤ now) (l : Nat) (s : Sl) (hl : 1 ≤ l) (hl6 : l < 6) (hG : G now l s) (hm : now % sp l = 0) :
    G now (l + 1) ((s l (idx l now)).foldl (put now) (upd s l (idx l now) [])) ∧ (∀ t ∈ s l (idx l now), now ≤ t.2 ∧ t.2 ≤ 1000000000) := by
  have hcs : l = 1 ∨ l = 2 ∨ l = 3 ∨ l = 4 ∨ l = 5 := by omega
  have hx : ∀ t ∈ s l (idx l now), now ≤ t.2 ∧ t.2 ≤ 1000000000 ∧ t.2 / sp l = now / sp l := by
    intro t ht
    obtain ⟨g1, g2, g3, _, g5⟩ := hG l (idx l now) t (by omega) (idx_lt _ _) ht
    refine ⟨g1, g2, ?_⟩
    have g5 := g5 (Nat.le_refl _)
    unfold pl at g5
    unfold idx at g3
    rcases hcs with rfl | rfl | rfl | rfl | rfl
    all_goals simp only [sp] at *
    all_goals omega
  refine ⟨?_, fun t ht => ⟨(hx t ht).1, (hx t ht).2.1⟩⟩
  intro i k t hi hk ht
  rcases puts_mem now _ _ t i k ht with h | ⟨h, rfl, rfl⟩
  · by_cases e : i = l ∧ k = idx l now
    · obtain ⟨rfl, rfl⟩ := e
      rw [upd_same] at h
      exact absurd h (by simp)
    · rw [upd_other _ _ _ _ e] at h
      obtain ⟨g1, g2, g3, g4, g5⟩ := hG i k t hi hk h
      refine ⟨g1, g2, g3, fun hlt => ?_, fun hle => g5 (by omega)⟩
      by_cases e2 : i < l
      · exact g4 e2
      · obtain rfl : i = l := by omega
        have g5 := g5 (Nat.le_refl _)
        have hne : k ≠ idx i now := fun h => e ⟨rfl, h⟩
        unfold pl at g5 ⊢
        unfold idx at g3 hne
        rcases hcs with rfl | rfl | rfl | rfl | rfl
        all_goals simp only [sp] at *
        all_goals omega
  · obtain ⟨g1, g2, g3⟩ := hx t h
    have hlow := lev_low now t.2 l (by omega) (by omega) (by omega) g1 hm g3
    exact ⟨g1, g2, rfl, fun _ => lev_pl now t.2 (by omega) g1 g2, fun hle => absurd hle (by omega)⟩
theorem flat_empty (s : Sl) (l k : Nat) (hl : l < 6) (hk : k < 32) : (flat (upd s l k [])).length + (s l k).length = (flat s).length := by
  have p2 := (flat_upd s l k hl hk [] (s l k) [] (by simp)).length_eq
  simpa using p2
theorem puts_len (now : Int) (x : List Tm) (s : Sl) : (flat (x.foldl (put now) s)).length = (flat s).length + x.length := by
  have := (puts_flat now x s).length_eq
  simpa using this
theorem flat_few {st : St} {m : Nat} (h : (flat st.slot).length ≤ m) : Few st m := by
  intro l k hl hk
  have := flat_empty st.slot l k hl hk
  omega
/-- The colors behind a slot's being emptied: its row is nobody's. -/
def freed (col : Nat → Nat) (c : Nat) : Nat → Nat := fun g => if col g = c then 202 else col g
theorem WAt.empty {w : World} {base : Nat} {col : Nat → Nat} {b bm n : Nat} {D : DataW Unit} {cs : Array Value} {st : St} (h : WAt w base col b bm n D cs st) (l k : Nat) (hl : l < 6) (hk : k < 32) :
    WAt (w.setCell ⟨b, 3 + l * 32 + k, none⟩ (.slice none 0 0)) base (freed col (l * 32 + k)) b bm n D (cs.setIfInBounds (3 + l * 32 + k) (.slice none 0 0)) { st with slot := upd st.slot l k [] } ∧
      Fr w (w.setCell ⟨b, 3 + l * 32 + k, none⟩ (.slice none 0 0)) base col (freed col (l * 32 + k)) b bm := by
  obtain ⟨h1, h2⟩ := h.slot l k hl hk (w1 := w) (.slice none 0 0) [] (Kd.R_nil _ _ _ _ _) (Below.refl _ _) (fun _ _ _ => rfl)
  have hbl : b < (w.setCell ⟨b, 3 + l * 32 + k, none⟩ (.slice none 0 0)).heap.size := h1.blt
  have hml := owns_lt h1.mp
  have hcb := h.cb
  have hcm := h.cm
  have hsz := h2.bl.size
  refine ⟨⟨h1.hb, h1.sz, h1.c0, h1.c1, h1.c2, ?_, h1.bb, ?_, ?_, h1.mp, h1.du, h1.bmb⟩, h2.bl, ?_, h2.sa⟩
  · intro i j hi hj
    obtain ⟨v, hv, hR⟩ := h1.sl i j hi hj
    by_cases e : i = l ∧ j = k
    · obtain ⟨rfl, rfl⟩ := e
      obtain rfl : v = .slice none 0 0 := by
        rw [Array.getElem?_setIfInBounds_self_of_lt (by have := h.sz; omega)] at hv
        exact (Option.some.inj hv).symm
      refine ⟨_, hv, ?_⟩
      show k38.R 38 _ base _ _ ((upd st.slot i j [] i j).map ofT)
      rw [upd_same]
      exact Kd.R_nil _ _ _ _ _
    · refine ⟨v, hv, Kd.R_mono (Kd.R_bound hR) ?_⟩
      rintro g ⟨hg, _, hlt, _⟩
      have hne : i * 32 + j ≠ l * 32 + k := fun e' => e ⟨by omega, by omega⟩
      by_cases hlt2 : g < w.heap.size
      · have hg : newCol w col (l * 32 + k) g = i * 32 + j := hg
        rw [newCol_lt hlt2] at hg
        show freed col _ g = _
        unfold freed
        rw [if_neg (by omega)]
        exact hg
      · have hg : newCol w col (l * 32 + k) g = i * 32 + j := hg
        rw [newCol_ge hlt2] at hg
        exact absurd hg.symm hne
  · show freed col _ b = _
    unfold freed
    rw [if_neg (by omega)]; exact h.cb
  · show freed col _ bm = _
    unfold freed
    rw [if_neg (by omega)]; exact h.cm
  · intro g hg h192
    show freed col _ g = _
    unfold freed
    rw [if_neg (by omega)]
theorem fall_calls {w : World} {base : Nat} {col : Nat → Nat} {b bm : Nat} {st : St} (h : WI w base col b bm st) (h0 : 1 ≤ st.now) (h9 : st.now ≤ 1000000000) (hG : G st.now 1 st.slot) (hlen : (flat st.slot).length ≤ 1000) :
    Calls Try.prog 28 #[.pointer (some ⟨b, 0, none⟩)] w fun e w' => e = .returned (.tuple #[]) ∧ ∃ col', WI w' base col' b bm { st with slot := fall st.now 5 1 st.slot } ∧ Fr w w' base col col' b bm := by
  have hu := Try.underlying62
  have hu38 := Try.underlying38
  have hu60 := Try.underlying60
  have hu59 := Try.underlying59
  have hz59 : ∀ w, (sizeOf 59).run Try.prog w = .ok 32 w := fun w => by kernel_rfl
  have hz35 : ∀ w, (sizeOf 35).run Try.prog w = .ok 1 w := fun w => by kernel_rfl
  have HN := Aside0.mk (And.intro h0 h9)
  have HT0 : Aside0 (WI w base col b bm { st with slot := st.slot } ∧ Fr w w base col col b bm) := ⟨h, Fr.refl _ _ _ _ _⟩
  have HG0 := Aside0.mk (And.intro hG hlen)
  clear h h0 h9 hG hlen
  go_enter Try.func28, Try.ntmps28
  apply wp_scope_straight
  go_wp2
  apply wp_label
  go_wp2
  go_loopg [2, 3] 6 (fun kq v2 v3 w2 => ∃ (l : Nat) (s : Sl) (colr : Nat → Nat), v2 = .int .i64 (sp (l - 1)) ∧ v3 = .int .i64 l ∧ Aside0 (l + kq = 7 ∧ 1 ≤ l ∧ l ≤ 6 ∧ G st.now l s ∧ (flat s).length ≤ 1000 ∧ fall st.now (6 - l) l s = fall st.now 5 1 st.slot) ∧ Aside0 (WI w2 base colr b bm { st with slot := s } ∧ Fr w w2 base col colr b bm))
  case atStart => exact ⟨1, st.slot, col, rfl, rfl, ⟨rfl, by omega, by omega, HG0.out.1, HG0.out.2, rfl⟩, HT0⟩
  case round =>
    clear HT0 HG0
    obtain ⟨l, s, colr, rfl, rfl, HI, HS⟩ := hrel
    by_cases hi : (l : Int) < 6
    case neg =>
      have hib : decide ((l : Int) < 6) = false := decide_eq_false hi
      have hi6 : l = 6 := by have := HI.out; omega
      subst hi6
      go_wp2
      go_end0
      refine ⟨rfl, colr, ?_, HS.out.2⟩
      have e : s = fall st.now 5 1 st.slot := HI.out.2.2.2.2.2
      rw [← e]
      exact HS.out.1
    have hib : decide ((l : Int) < 6) = true := decide_eq_true hi
    obtain ⟨s', hs'⟩ : ∃ s' : Int, s' = sp l := ⟨_, rfl⟩
    have hmul : wrap64 (sp (l - 1) * 32) = s' := by
      have h1 := HI.out.2.1
      rw [hs']
      rcases (show l = 1 ∨ l = 2 ∨ l = 3 ∨ l = 4 ∨ l = 5 by omega) with rfl | rfl | rfl | rfl | rfl <;> exact wrap64_is (by decide) (by decide)
    have hl1 := HI.out.2.1
    have hl6 : l < 6 := by omega
    have hpos : 0 < s' := by
      rw [hs']
      rcases (show l = 1 ∨ l = 2 ∨ l = 3 ∨ l = 4 ∨ l = 5 by omega) with rfl | rfl | rfl | rfl | rfl <;> decide
    have hs0 : (s' = 0) = False := eq_false (by omega)
    have HS' := Aside0.mk hs'
    obtain ⟨D, cs, hw⟩ := HS.out.1
    have c1 := hw.cell hw.c1
    have hmt : Int.tmod st.now s' = st.now % s' := Int.tmod_eq_emod_of_nonneg (by have := HN.out; omega)
    by_cases hm : st.now % s' = 0
    case neg =>
      have hmb : (Int.tmod st.now s' != 0) = true := by rw [hmt]; exact bne_iff_ne.2 hm
      have HF : Aside0 (s = fall st.now 5 1 st.slot) := ⟨by
        have h5 := HI.out.2.2.2.2.2
        rw [← h5]
        obtain ⟨f, hf⟩ : ∃ f, 6 - l = f + 1 := ⟨5 - l, by omega⟩
        rw [hf, fall, if_pos hl6, if_neg (by rw [← hs']; exact hm)]⟩
      clear hs' hmt hw
      go_wp2
      go_end0
      refine ⟨rfl, colr, ?_, HS.out.2⟩
      rw [← HF.out]
      exact HS.out.1
    have hmb : (Int.tmod st.now s' != 0) = false := by rw [hmt, hm]; rfl
    obtain ⟨kk, N, hN, hkN, hk32, HK⟩ : ∃ (kk : Nat) (N : Int), IntKind.i64.wrap (Int.tdiv st.now s') = N ∧ Int.tmod N 32 = (kk : Int) ∧ kk < 32 ∧ Aside0 (kk = idx l st.now) := by
      refine ⟨idx l st.now, st.now / s', ?_, ?_, idx_lt _ _, ⟨rfl⟩⟩
      · have h0 := HN.out
        have h1 : 0 ≤ st.now / s' := Int.ediv_nonneg (by omega) (by omega)
        have h2 : st.now / s' ≤ st.now := Int.ediv_le_self _ (by omega)
        rw [Int.tdiv_eq_ediv_of_nonneg (by omega), wrap64_of' _ (by omega) (by omega)]
      · have h0 := HN.out
        have h1 : 0 ≤ st.now / s' := Int.ediv_nonneg (by omega) (by omega)
        rw [Int.tmod_eq_emod_of_nonneg h1]
        unfold idx
        rw [← hs']
        omega
    have hkI : (kk : Int) < 32 := by omega
    obtain ⟨v, hv, hR⟩ := hw.sl l kk hl6 hk32
    obtain ⟨A1, C1, rfl⟩ := Kd.R_slice hR
    rw [List.length_map] at hv hR
    have hcv := hw.cell hv
    have hfv := hw.frozen (3 + l * 32 + kk)
    have HV := Aside0.mk (And.intro hw hR)
    obtain ⟨hx1, hx2⟩ := fall_step st.now HN.out.1 l s hl1 hl6 HI.out.2.2.2.1 (by rw [← hs']; exact hm)
    have HX : Aside0 (G st.now (l + 1) ((s l kk).foldl (put st.now) (upd s l kk [])) ∧ (∀ t ∈ s l kk, st.now ≤ t.2 ∧ t.2 ≤ 1000000000) ∧ fall st.now (6 - (l + 1)) (l + 1) ((s l kk).foldl (put st.now) (upd s l kk [])) = fall st.now 5 1 st.slot) := ⟨by
      rw [HK.out]
      refine ⟨hx1, hx2, ?_⟩
      rw [← HI.out.2.2.2.2.2]
      obtain ⟨f, hf⟩ : ∃ f, 6 - l = f + 1 := ⟨5 - l, by omega⟩
      rw [hf, fall, if_pos hl6, if_pos (by rw [← hs']; exact hm), show 6 - (l + 1) = f by omega]⟩
    clear hs' hmt hw hv hR hx1 hx2 hm hpos
    go_wp2
    go_quiet (fail)
    go_wp2
    obtain ⟨w3, hw3⟩ : ∃ w3, w3 = (wr.drewN nq).setCell ⟨b, 3 + l * 32 + kk, none⟩ (.slice none 0 0) := ⟨_, rfl⟩
    have HE : Aside0 (WI w3 base (freed colr (l * 32 + kk)) b bm { st with slot := upd s l kk [] } ∧ Fr w w3 base col (freed colr (l * 32 + kk)) b bm ∧
        ∀ w4 col4, Fr w3 w4 base (freed colr (l * 32 + kk)) col4 b bm → Kd.C k38 w4 A1 (s l kk).length ((s l kk).map ofT)) := ⟨by
      have hq : WAt (wr.drewN nq) base colr b bm st.cnt D cs { st with slot := s } := HV.out.1.stay (Nat.le_refl _) (fun _ _ _ => rfl) (fun _ _ => rfl)
      have hfq : Fr wr (wr.drewN nq) base colr colr b bm := ⟨pw_below_drewN (Below.refl _ _) _, fun _ _ _ => rfl, fun _ _ _ _ _ => rfl⟩
      obtain ⟨e1, e2⟩ := hq.empty l kk hl6 hk32
      rw [hw3]
      refine ⟨e1.wi, (HS.out.2.trans hfq).trans e2, fun w4 col4 hf => ?_⟩
      have hR3 : k38.R 38 ((wr.drewN nq).setCell ⟨b, 3 + l * 32 + kk, none⟩ (.slice none 0 0)) base (fun g => colr g = l * 32 + kk) (.slice A1 (s l kk).length C1) ((s l kk).map ofT) :=
        Kd.R_far (p := ⟨b, _, none⟩) (Kd.R_step HV.out.2 (fun _ _ _ => rfl)) (fun g (hg : colr g = l * 32 + kk) (e : g = b) => by have := HV.out.1.cb; rw [← e, hg] at this; omega) _
      have hR4 := Kd.R_step (w1 := w4) hR3 (fun g (hg : colr g = l * 32 + kk) hlt => hf.sa g hlt (by unfold freed; rw [if_pos hg]; decide) (fun e => by have := HV.out.1.cb; rw [← e, hg] at this; omega) (fun e => by have := HV.out.1.cm; rw [← e, hg] at this; omega))
      have := (Kd.R_reads' hR4).2.2
      rw [List.length_map] at this
      exact this⟩
    rw [← hw3]
    have hst := HI.out.2.2.2.2.1
    have HLN : Aside0 (∀ i, i ≤ (s l kk).length → (flat (((s l kk).take i).foldl (put st.now) (upd s l kk []))).length ≤ 1000) := ⟨by
      intro i hi
      have h1 := flat_empty s l kk hl6 hk32
      have h2 := puts_len st.now ((s l kk).take i) (upd s l kk [])
      rw [List.length_take] at h2
      omega⟩
    have hlen1 : (s l kk).length ≤ 1000 := by
      have h1 := flat_empty s l kk hl6 hk32
      omega
    clear hst hw3 hcv hfv c1 HV
    go_loopg [41] ((s l kk).length) (fun kq v41 w2 => ∃ (i : Nat) (col4 : Nat → Nat), v41 = .int .i64 i ∧ Aside0 (i + kq = (s l kk).length) ∧ Aside0 (WI w2 base col4 b bm { st with slot := ((s l kk).take i).foldl (put st.now) (upd s l kk []) } ∧ Fr w3 w2 base (freed colr (l * 32 + kk)) col4 b bm))
    case atStart => exact ⟨0, _, rfl, ⟨by omega⟩, ⟨HE.out.1, Fr.refl _ _ _ _ _⟩⟩
    case round =>
      obtain ⟨i, col4, rfl, HI4, HS4⟩ := hrel
      by_cases hil : i < (s l kk).length
      case neg =>
        have hib4 : decide (i < (s l kk).length) = false := decide_eq_false hil
        have E6 : Aside0 (wrap64 ((l : Int) + 1) = ((l + 1 : Nat) : Int)) := ⟨by rw [wrap64_is (by omega) (by omega)]; omega⟩
        have ET : Aside0 ((s l kk).take i = s l kk) := ⟨List.take_of_length_le (by omega)⟩
        clear hil
        go_wp2
        go_roundg (7 - l - 1)
        case measure => have := HI.out; omega
        case rel =>
          refine ⟨l + 1, (s l kk).foldl (put st.now) (upd s l kk []), col4, by rw [Nat.add_sub_cancel, ← HS'.out], by first | rw [E6.out] | (push_cast; rfl), ⟨by have := HI.out; omega, by omega, by omega, HX.out.1, ?_, HX.out.2.2⟩, ⟨?_, HE.out.2.1.trans HS4.out.2⟩⟩
          · have := HLN.out (s l kk).length (Nat.le_refl _)
            rw [List.take_length] at this
            exact this
          · have := HS4.out.1
            rw [ET.out] at this
            exact this
      have hib4 : decide (i < (s l kk).length) = true := decide_eq_true hil
      obtain ⟨ad, hA, d0, d1⟩ := at_T38 (HE.out.2.2 wr col4 HS4.out.2) (i : Int) (by omega) (by omega)
      obtain ⟨t, ht⟩ : ∃ t, t = (s l kk)[i] := ⟨_, rfl⟩
      have hrd : rd_T38 ((s l kk).map ofT) (i : Int) = ⟨t.1, t.2⟩ := by
        unfold rd_T38
        rw [ht]
        simp [List.getD, hil, ofT]
      rw [hrd, Int.toNat_natCast] at d0 d1
      have HTM : Aside0 (t ∈ s l kk) := ⟨by rw [ht]; exact List.getElem_mem _⟩
      have HTE : Aside0 ((s l kk).take (i + 1) = (s l kk).take i ++ [t]) := ⟨by rw [ht, List.take_succ_eq_append_getElem hil]⟩
      have hcall : Calls Try.prog 27 #[.pointer (some ⟨b, 0, none⟩), .agg #[.string t.1, .int .i64 t.2]] (wr.alloc (.cells #[.string t.1, .int .i64 t.2] 38)) fun e w' => e = .returned (.tuple #[]) ∧ ∃ col', WI w' base col' b bm { st with slot := ((s l kk).take (i + 1)).foldl (put st.now) (upd s l kk []) } ∧ Fr w3 w' base (freed colr (l * 32 + kk)) col' b bm := by
        obtain ⟨D4, cs4, h4⟩ := HS4.out.1
        obtain ⟨g1, g2⟩ := h4.grow (below_alloc (Below.refl _ wr) (.cells #[.string t.1, .int .i64 t.2] 38)) 202
        refine (put_fr g1.wi t (by have := HN.out; show 0 ≤ st.now; omega) (HX.out.2.1 t HTM.out).1 (HX.out.2.1 t HTM.out).2 (flat_few (HLN.out i (by omega)))).mono ?_
        rintro e w' ⟨rfl, col', h', f'⟩
        refine ⟨rfl, col', ?_, (HS4.out.2.trans g2).trans f'⟩
        rw [HTE.out, List.foldl_append]
        exact h'
      have E7 : Aside0 (wrap64 ((i : Int) + 1) = ((i + 1 : Nat) : Int)) := ⟨by rw [wrap64_is (by omega) (by omega)]; omega⟩
      have hir : (0 : Int) ≤ (i : Int) := by omega
      have hil2 : (i : Int) < ((s l kk).length : Int) := by omega
      subst hA
      clear hrd ht hil
      go_wp2_with (go_at_call 27; refine hcall.mono ?_; rintro e w5 ⟨rfl, hw5⟩; have N5 := Aside0.mk hw5; clear hw5)
      go_roundg (gk - 1)
      case measure => have := HI4.out; omega
      case rel =>
        obtain ⟨col5, h5, f5⟩ := N5.out
        exact ⟨i + 1, col5, by first | rw [E7.out] | (push_cast; rfl), ⟨by have := HI4.out; omega⟩, ⟨h5, f5⟩⟩
end Go.Proofs.Ytcknocglaimcpaa.WA

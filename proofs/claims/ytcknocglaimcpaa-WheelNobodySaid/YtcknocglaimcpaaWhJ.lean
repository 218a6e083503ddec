/- put, on a wheel in memory. -/
import Derived.Test.YtcknocglaimcpaaWhI
namespace Go.Proofs.Ytcknocglaimcpaa.WA
open Go.RowKit Go.Proofs.YtcknocglaimcpaaW.PrintWords Go.Proofs.YtcknocglaimcpaaW.PrintLast Go.Proofs.YtcknocglaimcpaaW.PrintMore
open Go.Proofs.Ytcknocglaimcpaa.PW Go.Proofs.Ytcknocglaimcpaa.Wh Go.Maps
set_option linter.unusedVariables false
set_option linter.unusedSimpArgs false
theorem owns_same {w w' : World} {bm n : Nat} {D : DataW Unit} (h : w.ownsMap Try.prog 9 (plainElem (H := Unit) Try.prog 3) bm n D) (e : w'.heap[bm]? = w.heap[bm]?) : w'.ownsMap Try.prog 9 (plainElem (H := Unit) Try.prog 3) bm n D := by
  obtain ⟨es, clock, h1, h2⟩ := h
  exact ⟨es, clock, e.trans h1, h2⟩
theorem owns_lt {w : World} {bm n : Nat} {D : DataW Unit} (h : w.ownsMap Try.prog 9 (plainElem (H := Unit) Try.prog 3) bm n D) : bm < w.heap.size := by
  obtain ⟨es, clock, h1, h2⟩ := h
  exact (Array.getElem?_eq_some_iff.1 h1).1
theorem put_calls {w : World} {base : Nat} {col : Nat → Nat} {b bm n : Nat} {D : DataW Unit} {cs : Array Value} {st : St} (h : WAt w base col b bm n D cs st) (hbase : base ≤ w.heap.size) (t : Tm)
    (h0 : 0 ≤ st.now) (h1 : st.now ≤ t.2) (h2 : t.2 ≤ 1000000000) (hlen : (st.slot (lev st.now t.2) (idx (lev st.now t.2) t.2)).length ≤ 1000) :
    Calls Try.prog 27 #[.pointer (some ⟨b, 0, none⟩), .agg #[.string t.1, .int .i64 t.2]] w fun e w' => e = .returned (.tuple #[]) ∧ ∃ col' cs', WAt w' base col' b bm n D cs' { st with slot := put st.now st.slot t } ∧
      (∀ g, g < w.heap.size → col' g = col g) ∧ Below base w w' ∧ (∀ g, g < w.heap.size → 192 ≤ col g → g ≠ b → w'.heap[g]? = w.heap[g]?) := by
  have hl6 := lev_lt st.now t.2
  have hk32 := idx_lt (lev st.now t.2) t.2
  obtain ⟨v, hv, hR⟩ := h.sl _ _ hl6 hk32
  have hbl : b < w.heap.size := (Array.getElem?_eq_some_iff.1 h.hb).1
  have hml := owns_lt h.mp
  have hnb : ¬ (col b = lev st.now t.2 * 32 + idx (lev st.now t.2) t.2 ∨ w.heap.size ≤ b) := by
    rintro (e | e)
    · rw [h.cb] at e; omega
    · omega
  have hpw := put_walk w b st.now t.1 t.2 (h.cell h.c1) h0 h1 h2 base hbase (fun g => col g = lev st.now t.2 * 32 + idx (lev st.now t.2) t.2 ∨ w.heap.size ≤ g) (fun g hg => .inr hg) hnb v _ (by rw [List.length_map]; exact hlen) (h.cell hv) (h.frozen _) (Kd.R_mono hR (fun g hg => .inl hg))
  refine hpw.mono ?_
  rintro e w' ⟨rfl, v1, w1, rfl, hR1, hB1, hF1, hO1⟩
  refine ⟨rfl, fun g => if g < w.heap.size then col g else lev st.now t.2 * 32 + idx (lev st.now t.2) t.2, cs.setIfInBounds (3 + lev st.now t.2 * 32 + idx (lev st.now t.2) t.2) v1, ?_, fun g hg => if_pos hg, ?_, ?_⟩
  · have hvb : ∀ g, v.ownBlock = some g → col g = lev st.now t.2 * 32 + idx (lev st.now t.2) t.2 := hR.1
    have hb1 : w1.heap[b]? = w.heap[b]? := hF1 b hbl (fun e => by have := hvb b e.symm; rw [h.cb] at this; omega)
    have hm1 : w1.heap[bm]? = w.heap[bm]? := hF1 bm hml (fun e => by have := hvb bm e.symm; rw [h.cm] at this; omega)
    have hbb := blk_set (hb1.trans h.hb) (3 + lev st.now t.2 * 32 + idx (lev st.now t.2) t.2) v1
    have hne : bm ≠ b := fun e => by have := h.cm; rw [e, h.cb] at this; omega
    refine ⟨hbb, by rw [Array.size_setIfInBounds]; exact h.sz, ?_, ?_, ?_, ?_, h.bb, ?_, ?_, ?_, h.du, h.bmb⟩
    · rw [Array.getElem?_setIfInBounds_ne (by omega)]; exact h.c0
    · rw [Array.getElem?_setIfInBounds_ne (by omega)]; exact h.c1
    · rw [Array.getElem?_setIfInBounds_ne (by omega)]; exact h.c2
    · intro l k hl hk
      have far : ∀ g, (fun g => (if g < w.heap.size then col g else lev st.now t.2 * 32 + idx (lev st.now t.2) t.2) = l * 32 + k) g → g ≠ b := by
        intro g hg e
        have hg : (if g < w.heap.size then col g else lev st.now t.2 * 32 + idx (lev st.now t.2) t.2) = l * 32 + k := hg
        rw [e, if_pos hbl, h.cb] at hg
        omega
      by_cases e : l = lev st.now t.2 ∧ k = idx (lev st.now t.2) t.2
      · obtain ⟨rfl, rfl⟩ := e
        refine ⟨v1, by rw [Array.getElem?_setIfInBounds_self_of_lt (by have := h.sz; omega)], ?_⟩
        have e2 : (put st.now st.slot t (lev st.now t.2) (idx (lev st.now t.2) t.2)).map ofT = (st.slot (lev st.now t.2) (idx (lev st.now t.2) t.2)).map ofT ++ [⟨t.1, t.2⟩] := by
          unfold put
          rw [upd_same, List.map_append]
          rfl
        show k38.R 38 _ base _ v1 ((put st.now st.slot t (lev st.now t.2) (idx (lev st.now t.2) t.2)).map ofT)
        rw [e2]
        refine Kd.R_far (p := ⟨b, _, none⟩) (Kd.R_mono hR1 ?_) far v1
        rintro g (hg | hg)
        · by_cases hlt : g < w.heap.size
          · rw [if_pos hlt]; exact hg
          · rw [if_neg hlt]
        · rw [if_neg (by omega)]
      · obtain ⟨u, hu, hRu⟩ := h.sl l k hl hk
        have hj : l * 32 + k ≠ lev st.now t.2 * 32 + idx (lev st.now t.2) t.2 := fun e' => e ⟨by omega, by omega⟩
        refine ⟨u, by rw [Array.getElem?_setIfInBounds_ne (by omega)]; exact hu, ?_⟩
        show k38.R 38 _ base _ u ((put st.now st.slot t l k).map ofT)
        have e2 : put st.now st.slot t l k = st.slot l k := upd_other _ _ _ _ e
        rw [e2]
        refine Kd.R_far (p := ⟨b, _, none⟩) ?_ far v1
        have hs := Kd.R_step (w1 := w1) hRu (fun g hg hlt => hF1 g hlt (fun e' => hj (by rw [← hg]; exact hvb g e'.symm)))
        refine Kd.R_move (Kd.R_mono (Kd.R_bound hRu) (ok' := fun g => (if g < w.heap.size then col g else lev st.now t.2 * 32 + idx (lev st.now t.2) t.2) = l * 32 + k) ?_) ?_
        · rintro g ⟨hg, _, hlt, _⟩
          rw [if_pos hlt]
          exact hg
        · intro g hg
          by_cases hlt : g < w.heap.size
          · have hg : (if g < w.heap.size then col g else _) = l * 32 + k := hg
            rw [if_pos hlt] at hg
            exact hF1 g hlt (fun e' => hj (by rw [← hg]; exact hvb g e'.symm))
          · have hg : (if g < w.heap.size then col g else _) = l * 32 + k := hg
            rw [if_neg hlt] at hg
            exact absurd hg.symm hj
    · show (if b < w.heap.size then col b else _) = 200
      rw [if_pos hbl]; exact h.cb
    · show (if bm < w.heap.size then col bm else _) = 201
      rw [if_pos hml]; exact h.cm
    · exact owns_same h.mp ((Below.heap_setCell w1 ⟨b, _, none⟩ v1 bm hne).trans hm1)
  · exact hB1.setCell h.bb _
  · intro g hg h192 hgb
    rw [Below.heap_setCell w1 ⟨b, _, none⟩ v1 g hgb]
    exact hF1 g hg (fun e => by have := hR.1 g e.symm; omega)
end Go.Proofs.Ytcknocglaimcpaa.WA

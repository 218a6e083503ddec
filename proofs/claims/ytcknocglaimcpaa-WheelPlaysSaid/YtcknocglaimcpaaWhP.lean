/- A wheel in memory: what stays when memory turns; one slot set anew. -/
import Derived.Test.YtcknocglaimcpaaWhO
namespace Go.Proofs.Ytcknocglaimcpaa.WA
open Go.RowKit Go.Proofs.YtcknocglaimcpaaW.PrintWords Go.Proofs.YtcknocglaimcpaaW.PrintLast Go.Proofs.YtcknocglaimcpaaW.PrintMore
open Go.Proofs.Ytcknocglaimcpaa.PW Go.Proofs.Ytcknocglaimcpaa.Wh Go.Maps
set_option linter.unusedVariables false
set_option linter.unusedSimpArgs false
/-- What a call on a wheel leaves as it was. -/
structure Fr (w w' : World) (base : Nat) (col col' : Nat → Nat) (b bm : Nat) : Prop where
  bl : Below base w w'
  co : ∀ g, g < w.heap.size → 192 ≤ col g → col' g = col g
  sa : ∀ g, g < w.heap.size → 192 ≤ col g → g ≠ b → g ≠ bm → w'.heap[g]? = w.heap[g]?
theorem Fr.refl (w : World) (base : Nat) (col : Nat → Nat) (b bm : Nat) : Fr w w base col col b bm := ⟨Below.refl _ _, fun _ _ _ => rfl, fun _ _ _ _ _ => rfl⟩
theorem below_trans {B : Nat} {w w1 w2 : World} (h : Below B w w1) (h' : Below B w1 w2) : Below B w w2 := ⟨h'.os.trans h.os, h'.tape.trans h.tape, h'.output.trans h.output, Nat.le_trans h.size h'.size, fun i hi => (h'.block i hi).trans (h.block i hi)⟩
theorem Fr.trans {w w1 w2 : World} {base : Nat} {col col1 col2 : Nat → Nat} {b bm : Nat} (h : Fr w w1 base col col1 b bm) (h' : Fr w1 w2 base col1 col2 b bm) : Fr w w2 base col col2 b bm :=
  ⟨below_trans h.bl h'.bl, fun g hg h1 => (h'.co g (Nat.lt_of_lt_of_le hg h.bl.size) (by rw [h.co g hg h1]; exact h1)).trans (h.co g hg h1), fun g hg h1 h2 h3 => (h'.sa g (Nat.lt_of_lt_of_le hg h.bl.size) (by rw [h.co g hg h1]; exact h1) h2 h3).trans (h.sa g hg h1 h2 h3)⟩
def newCol (w : World) (col : Nat → Nat) (c : Nat) : Nat → Nat := fun g => if g < w.heap.size then col g else c
theorem newCol_lt {w : World} {col : Nat → Nat} {c g : Nat} (h : g < w.heap.size) : newCol w col c g = col g := if_pos h
theorem newCol_ge {w : World} {col : Nat → Nat} {c g : Nat} (h : ¬ g < w.heap.size) : newCol w col c g = c := if_neg h
theorem WAt.blt {w : World} {base : Nat} {col : Nat → Nat} {b bm n : Nat} {D : DataW Unit} {cs : Array Value} {st : St} (h : WAt w base col b bm n D cs st) : b < w.heap.size := (Array.getElem?_eq_some_iff.1 h.hb).1
theorem WAt.base_le {w : World} {base : Nat} {col : Nat → Nat} {b bm n : Nat} {D : DataW Unit} {cs : Array Value} {st : St} (h : WAt w base col b bm n D cs st) : base ≤ w.heap.size := by have := h.blt; have := h.bb; omega
theorem WAt.ne {w : World} {base : Nat} {col : Nat → Nat} {b bm n : Nat} {D : DataW Unit} {cs : Array Value} {st : St} (h : WAt w base col b bm n D cs st) : bm ≠ b := fun e => by have := h.cm; rw [e, h.cb] at this; omega
/-- A row stays where its owners stay. -/
theorem R_col {w w1 : World} {base : Nat} {ok ok' : Nat → Prop} {v : Value} {xs : List S38} (h : k38.R 38 w base ok v xs) (hsz : w.heap.size ≤ w1.heap.size) (hs : ∀ g, g < w.heap.size → ok g → w1.heap[g]? = w.heap[g]?) (ho : ∀ g, g < w.heap.size → ok g → ok' g) : k38.R 38 w1 base ok' v xs := by
  have h1 := Kd.R_step (w1 := w1) h (fun g hg hlt => hs g hlt hg)
  refine Kd.R_move (Kd.R_mono (Kd.R_bound h) (ok' := fun g => ok g ∧ g < w.heap.size) ?_) ?_ |> fun h2 => Kd.R_mono h2 (fun g ⟨a, b⟩ => ho g b a)
  · rintro g ⟨hg, _, hlt, _⟩; exact ⟨hg, hlt⟩
  · rintro g ⟨hg, hlt⟩; exact hs g hlt hg
/-- Memory that the wheel has no part in turns. -/
theorem WAt.stay {w w1 : World} {base : Nat} {col col1 : Nat → Nat} {b bm n : Nat} {D : DataW Unit} {cs : Array Value} {st : St} (h : WAt w base col b bm n D cs st) (hsz : w.heap.size ≤ w1.heap.size)
    (hs : ∀ g, g < w.heap.size → (col g < 192 ∨ g = b ∨ g = bm) → w1.heap[g]? = w.heap[g]?) (hc : ∀ g, g < w.heap.size → col1 g = col g) : WAt w1 base col1 b bm n D cs st := by
  refine ⟨(hs b h.blt (.inr (.inl rfl))).trans h.hb, h.sz, h.c0, h.c1, h.c2, ?_, h.bb, (hc b h.blt).trans h.cb, (hc bm (owns_lt h.mp)).trans h.cm, owns_same h.mp (hs bm (owns_lt h.mp) (.inr (.inr rfl))), h.du, h.bmb⟩
  intro l k hl hk
  obtain ⟨v, hv, hR⟩ := h.sl l k hl hk
  refine ⟨v, hv, R_col hR hsz (fun g hg (e : col g = _) => hs g hg (.inl (by omega))) (fun g hg (e : col g = _) => (hc g hg).trans e)⟩
/-- Only new memory. -/
theorem WAt.grow {w w1 : World} {base : Nat} {col : Nat → Nat} {b bm n : Nat} {D : DataW Unit} {cs : Array Value} {st : St} (h : WAt w base col b bm n D cs st) (hb : Below w.heap.size w w1) (c : Nat) : WAt w1 base (newCol w col c) b bm n D cs st ∧ Fr w w1 base col (newCol w col c) b bm :=
  ⟨h.stay hb.size (fun g hg _ => hb.block g hg) (fun g hg => newCol_lt hg), below_lower hb h.base_le, fun g hg _ => newCol_lt hg, fun g hg _ _ _ => hb.block g hg⟩
theorem WAt.congr {w : World} {base : Nat} {col : Nat → Nat} {b bm n : Nat} {D : DataW Unit} {cs : Array Value} {st st' : St} (h : WAt w base col b bm n D cs st) (h1 : st'.now = st.now) (h2 : st'.due = st.due) (h3 : st'.cnt = st.cnt) (h4 : ∀ l k, l < 6 → k < 32 → st'.slot l k = st.slot l k) : WAt w base col b bm n D cs st' := by
  refine ⟨h.hb, h.sz, h.c0, by rw [h1]; exact h.c1, h.c2, ?_, h.bb, h.cb, h.cm, h.mp, by rw [h2, h3]; exact h.du, h.bmb⟩
  intro l k hl hk
  rw [h4 l k hl hk]
  exact h.sl l k hl hk
/-- One slot's row turns, and its cell. -/
theorem WAt.slot {w w1 : World} {base : Nat} {col : Nat → Nat} {b bm n : Nat} {D : DataW Unit} {cs : Array Value} {st : St} (h : WAt w base col b bm n D cs st) (l k : Nat) (hl : l < 6) (hk : k < 32) (v1 : Value) (x : List Tm)
    (hR : k38.R 38 w1 base (fun g => col g = l * 32 + k ∨ w.heap.size ≤ g) v1 (x.map ofT)) (hB : Below base w w1) (hF : ∀ g, g < w.heap.size → col g ≠ l * 32 + k → w1.heap[g]? = w.heap[g]?) :
    WAt (w1.setCell ⟨b, 3 + l * 32 + k, none⟩ v1) base (newCol w col (l * 32 + k)) b bm n D (cs.setIfInBounds (3 + l * 32 + k) v1) { st with slot := upd st.slot l k x } ∧
      Fr w (w1.setCell ⟨b, 3 + l * 32 + k, none⟩ v1) base col (newCol w col (l * 32 + k)) b bm := by
  have hbl := h.blt
  have hml := owns_lt h.mp
  have hne := h.ne
  have hb1 : w1.heap[b]? = w.heap[b]? := hF b hbl (by rw [h.cb]; omega)
  have hm1 : w1.heap[bm]? = w.heap[bm]? := hF bm hml (by rw [h.cm]; omega)
  have hbb := blk_set (hb1.trans h.hb) (3 + l * 32 + k) v1
  have far : ∀ (i j : Nat), i < 6 → j < 32 → ∀ g, newCol w col (l * 32 + k) g = i * 32 + j → g ≠ b := by
    intro i j hi hj g hg e
    rw [e, newCol_lt hbl, h.cb] at hg
    omega
  refine ⟨⟨hbb, by rw [Array.size_setIfInBounds]; exact h.sz, ?_, ?_, ?_, ?_, h.bb, ?_, ?_, ?_, h.du, h.bmb⟩, ?_⟩
  · rw [Array.getElem?_setIfInBounds_ne (by omega)]; exact h.c0
  · rw [Array.getElem?_setIfInBounds_ne (by omega)]; exact h.c1
  · rw [Array.getElem?_setIfInBounds_ne (by omega)]; exact h.c2
  · intro i j hi hj
    by_cases e : i = l ∧ j = k
    · obtain ⟨rfl, rfl⟩ := e
      refine ⟨v1, by rw [Array.getElem?_setIfInBounds_self_of_lt (by have := h.sz; omega)], ?_⟩
      show k38.R 38 _ base _ v1 ((upd st.slot i j x i j).map ofT)
      rw [upd_same]
      refine Kd.R_far (p := ⟨b, _, none⟩) (Kd.R_mono hR ?_) (far i j hi hj) v1
      rintro g (hg | hg)
      · by_cases hlt : g < w.heap.size
        · exact (newCol_lt hlt).trans hg
        · exact newCol_ge hlt
      · exact newCol_ge (by omega)
    · obtain ⟨u, hu, hRu⟩ := h.sl i j hi hj
      have hj2 : i * 32 + j ≠ l * 32 + k := fun e' => e ⟨by omega, by omega⟩
      refine ⟨u, by rw [Array.getElem?_setIfInBounds_ne (by omega)]; exact hu, ?_⟩
      show k38.R 38 _ base _ u ((upd st.slot l k x i j).map ofT)
      rw [upd_other _ _ _ _ e]
      refine Kd.R_far (p := ⟨b, _, none⟩) ?_ (far i j hi hj) v1
      exact R_col hRu hB.size (fun g hg (e' : col g = _) => hF g hg (by omega)) (fun g hg (e' : col g = _) => (newCol_lt hg).trans e')
  · exact (newCol_lt hbl).trans h.cb
  · exact (newCol_lt hml).trans h.cm
  · exact owns_same h.mp ((Below.heap_setCell w1 ⟨b, _, none⟩ v1 bm hne).trans hm1)
  · refine ⟨hB.setCell h.bb _, fun g hg _ => newCol_lt hg, fun g hg h192 hgb hgm => ?_⟩
    rw [Below.heap_setCell w1 ⟨b, _, none⟩ v1 g hgb]
    exact hF g hg (by omega)
/-- The map turns. -/
theorem WAt.map {w w1 : World} {base : Nat} {col : Nat → Nat} {b bm n n' : Nat} {D D' : DataW Unit} {cs : Array Value} {st : St} (h : WAt w base col b bm n D cs st) (hg : w.grownBy w1 (some bm)) (hm : w1.ownsMap Try.prog 9 (plainElem (H := Unit) Try.prog 3) bm n' D') 
    (due : ByteArray → Option Int) (cnt : Nat) (hd : dueIs D' due cnt) : WAt w1 base (newCol w col 202) b bm n' D' cs { st with due := due, cnt := cnt } ∧ Fr w w1 base col (newCol w col 202) b bm := by
  have hne := h.ne
  have hother : ∀ g, g < w.heap.size → g ≠ bm → w1.heap[g]? = w.heap[g]? := fun g hlt hgm => hg.block g hlt (fun e => hgm (Option.some.inj e))
  have hsz := hg.size
  refine ⟨⟨(hother b h.blt hne.symm).trans h.hb, h.sz, h.c0, h.c1, h.c2, ?_, h.bb, (newCol_lt h.blt).trans h.cb, (newCol_lt (owns_lt h.mp)).trans h.cm, hm, hd, h.bmb⟩, ?_⟩
  · intro l k hl hk
    obtain ⟨v, hv, hR⟩ := h.sl l k hl hk
    refine ⟨v, hv, R_col hR hsz (fun g hg (e : col g = _) => hother g hg (fun e' => ?_)) (fun g hg (e : col g = _) => (newCol_lt hg).trans e)⟩
    have := h.cm
    rw [e'] at e
    omega
  · refine ⟨⟨hg.os, hg.tape, hg.output, hg.size, fun g hlt => hother g (Nat.lt_of_lt_of_le hlt h.base_le) (by have := h.bmb; omega)⟩, fun g hg _ => newCol_lt hg, fun g hg _ _ hgm => hother g hg hgm⟩
end Go.Proofs.Ytcknocglaimcpaa.WA

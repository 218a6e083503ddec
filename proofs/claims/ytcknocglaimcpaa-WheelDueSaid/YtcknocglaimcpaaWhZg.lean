/- WheelDue: what it keeps beside the wheel; rows that are nobody's. -/
import Derived.Test.YtcknocglaimcpaaWhZe
namespace Go.Proofs.Ytcknocglaimcpaa.WA
open Go.RowKit Go.Proofs.YtcknocglaimcpaaW.PrintWords Go.Proofs.YtcknocglaimcpaaW.PrintLast Go.Proofs.YtcknocglaimcpaaW.PrintMore
open Go.Proofs.Ytcknocglaimcpaa.PW Go.Proofs.Ytcknocglaimcpaa.Wh Go.Maps
set_option linter.unusedVariables false
set_option linter.unusedSimpArgs false
set_option maxHeartbeats 8000000
set_option maxRecDepth 100000
/-- What WheelDue holds of the timers set. -/
structure DI (st : St) (L Z : List Tm) (last : Int) : Prop where
  rel : Rel st L
  sm : ∀ t ∈ L, t.1.size ≤ 1000
  mem : ∀ t, t ∈ L ↔ t ∈ Z
  nd : (Z.map (·.1)).Nodup
  la : ∀ t ∈ Z, t.2 ≤ last
def upd1 (k : ByteArray) (a : Int) (p : Tm) : Tm := if p.1 = k then (p.1, a) else p
def upZ (k : ByteArray) (a : Int) (Z : List Tm) : List Tm := Z.map (upd1 k a) ++ (if hasK Z k = true then [] else [(k, a)])
theorem upd1_key (k : ByteArray) (a : Int) (Z : List Tm) : (Z.map (upd1 k a)).map (·.1) = Z.map (·.1) := by
  rw [List.map_map]
  apply List.map_congr_left
  intro p _
  show (upd1 k a p).1 = p.1
  unfold upd1
  split <;> rfl
theorem nodup_of_keys {Z : List Tm} (h : (Z.map (·.1)).Nodup) : Z.Nodup := by
  unfold List.Nodup at h ⊢
  rw [List.pairwise_map] at h
  exact h.imp (fun hne e => hne (by rw [e]))
theorem di_len {st : St} {L Z : List Tm} {last : Int} (h : DI st L Z last) : L.length = Z.length :=
  Nat.le_antisymm (nodup_len L Z (so_nodup h.rel.so) (fun t ht => (h.mem t).1 ht)) (nodup_len Z L (nodup_of_keys h.nd) (fun t ht => (h.mem t).2 ht))
theorem di_set {st : St} {L Z : List Tm} {last : Int} (h : DI st L Z last) {k : ByteArray} {a : Int} (h0 : setE st k a = 0) (hk : k.size ≤ 1000) : DI (setS st k a) (insL L k a) (upZ k a Z) (max last a) := by
  have hr := rel_set h.rel k a
  unfold setL at hr
  rw [if_pos h0] at hr
  have hin : ∀ t, t ∈ insL L k a ↔ t = (k, a) ∨ (t ∈ L ∧ t.1 ≠ k) := by
    intro t
    unfold insL cutK
    rw [ins_mem, List.mem_filter]
    simp
  have hup : ∀ t, t ∈ upZ k a Z ↔ t = (k, a) ∨ (t ∈ Z ∧ t.1 ≠ k) := by
    intro t
    unfold upZ
    rw [List.mem_append, List.mem_map]
    constructor
    · rintro (⟨p, hp, rfl⟩ | ht)
      · unfold upd1
        by_cases e : p.1 = k
        · rw [if_pos e, e]; exact .inl rfl
        · rw [if_neg e]; exact .inr ⟨hp, e⟩
      · split at ht
        · exact absurd ht (by simp)
        · exact .inl (List.mem_singleton.1 ht)
    · rintro (rfl | ⟨ht, hne⟩)
      · by_cases hh : hasK Z k = true
        · obtain ⟨u, hu, e⟩ := (hasK_iff _ _).1 hh
          exact .inl ⟨u, hu, by unfold upd1; rw [if_pos e, e]⟩
        · right
          rw [if_neg hh]
          exact List.mem_singleton.2 rfl
      · exact .inl ⟨t, ht, by unfold upd1; rw [if_neg hne]⟩
  refine ⟨hr, ?_, fun t => by rw [hin, hup, h.mem], ?_, ?_⟩
  · intro t ht
    rcases (hin t).1 ht with rfl | ⟨ht, _⟩
    · exact hk
    · exact h.sm t ht
  · unfold upZ
    rw [List.map_append, upd1_key]
    split
    · rw [List.map_nil, List.append_nil]; exact h.nd
    · next hh =>
      rw [List.nodup_append]
      refine ⟨h.nd, by simp, ?_⟩
      intro x hx y hy e
      obtain ⟨u, hu, rfl⟩ := List.mem_map.1 hx
      have hy : y = k := by simpa using hy
      exact hh ((hasK_iff _ _).2 ⟨u, hu, by rw [← hy]; exact e⟩)
  · intro t ht
    rcases (hup t).1 ht with rfl | ⟨ht, _⟩
    · exact Int.le_max_right _ _
    · exact Int.le_trans (h.la t ht) (Int.le_max_left _ _)
/-- So many of what is known come, the others are left. -/
structure TI (st : St) (L Z : List Tm) (came : Nat) : Prop where
  rel : Rel st L
  sm : Sm L
  mem : ∀ t ∈ L, t ∈ Z
  ct : came + L.length = Z.length
theorem ti_tick {st : St} {L Z : List Tm} {came : Nat} (h : TI st L Z came) (hf : st.now < far) : (tickS st).now = st.now + 1 ∧ TI (tickS st) (L.drop (pre (st.now + 1) L)) Z (came + (tickO st).length) ∧ (∀ t ∈ tickO st, t ∈ Z ∧ t.2 = st.now + 1) ∧ So (tickO st) := by
  obtain ⟨r1, r2, r3⟩ := rel_tick h.rel hf
  have hp := pre_take (st.now + 1) L h.rel.so
  have hle := pre_le (st.now + 1) L
  refine ⟨r3, ⟨r1, ⟨by rw [List.length_drop]; have := h.sm.1; omega, fun t ht => h.sm.2 t (List.mem_of_mem_drop ht)⟩, fun t ht => h.mem t (List.mem_of_mem_drop ht), ?_⟩, ?_, ?_⟩
  · rw [r2, List.length_take, List.length_drop]
    have := h.ct
    omega
  · intro t ht
    rw [r2] at ht
    have hL := List.mem_of_mem_take ht
    refine ⟨h.mem t hL, ?_⟩
    rw [hp.1, List.mem_filter] at ht
    have h1 := (h.rel.later hL).1
    have h2 : t.2 ≤ st.now + 1 := by simpa using ht.2
    omega
  · rw [r2, hp.1]
    exact so_filter h.rel.so _
theorem so_keys {O : List Tm} (h : So O) {n : Int} (ht : ∀ t ∈ O, t.2 = n) (i : Nat) (hi : i + 1 < O.length) : bl (O[i]'(by omega)).1.data.toList (O[i + 1]).1.data.toList = true := by
  have h1 := (List.pairwise_iff_getElem.1 h) i (i + 1) (by omega) hi (by omega)
  have e1 := ht _ (List.getElem_mem (l := O) (n := i) (by omega))
  have e2 := ht _ (List.getElem_mem (l := O) (n := i + 1) hi)
  rcases h1 with h1 | ⟨_, h1⟩
  · omega
  · exact h1
theorem ti_end {st : St} {L Z : List Tm} {came : Nat} {last : Int} (h : TI st L Z came) (hla : ∀ t ∈ Z, t.2 ≤ last) (hn : last ≤ st.now) : L = [] := by
  cases L with
  | nil => rfl
  | cons t L =>
    have h1 := (h.rel.later (List.mem_cons_self ..)).1
    have h2 := hla t (h.mem t (List.mem_cons_self ..))
    omega
/-! ### rows that are nobody's, by their colors -/
/-- A row of whatever kind stays while the wheel's calls go on. -/
theorem row_fr {α : Type} {d : Kd α} {e : Nat} {w w' : World} {base B : Nat} {col col' : Nat → Nat} {b bm : Nat} {st : St} {v : Value} {xs : List α} {k : Nat} (hk : 203 ≤ k) (hw : WI w base col b bm st) (hf : Fr w w' base col col' b bm) (h : d.R e w B (fun g => col g = k) v xs) :
    d.R e w' B (fun g => col' g = k) v xs := by
  obtain ⟨D, cs, hw⟩ := hw
  have hcb := hw.cb
  have hcm := hw.cm
  have hs : ∀ g, col g = k → g < w.heap.size → w'.heap[g]? = w.heap[g]? := fun g hg hlt => hf.sa g hlt (by omega) (fun e => by rw [e] at hg; omega) (fun e => by rw [e] at hg; omega)
  have h1 := Kd.R_step (w1 := w') h hs
  have h2 := Kd.R_move (w1 := w') (Kd.R_mono (Kd.R_bound h) (ok' := fun g => col g = k ∧ g < w.heap.size) (by rintro g ⟨hg, _, hlt, _⟩; exact ⟨hg, hlt⟩)) (by rintro g ⟨hg, hlt⟩; exact hs g hg hlt)
  exact Kd.R_mono h2 (fun g ⟨hg, hlt⟩ => by rw [hf.co g hlt (by omega)]; exact hg)
/-- The wheel stays while a row that is nobody's is written, and memory is made. -/
theorem wi_row {w w1 : World} {base : Nat} {col : Nat → Nat} {b bm : Nat} {st : St} {row : Option Nat} {k : Nat} (hk : 203 ≤ k) (hw : WI w base col b bm st) (hg : w.grownBy w1 row) (hr : ∀ g, row = some g → col g = k) : WI w1 base (newCol w col k) b bm st := by
  obtain ⟨D, cs, hw⟩ := hw
  have hcb := hw.cb
  have hcm := hw.cm
  exact (hw.stay hg.size (fun g hlt hc => hg.block g hlt (fun e => by have := hr g e.symm; rcases hc with hc | rfl | rfl <;> omega)) (fun g hlt => newCol_lt hlt)).wi
/-- .. and so does another row. -/
theorem row_row {α : Type} {d : Kd α} {e : Nat} {w w1 : World} {B : Nat} {col : Nat → Nat} {row : Option Nat} {k k' : Nat} {v : Value} {xs : List α} (hkk : k' ≠ k) (hg : w.grownBy w1 row) (hr : ∀ g, row = some g → col g = k) (h : d.R e w B (fun g => col g = k') v xs) :
    d.R e w1 B (fun g => newCol w col k g = k') v xs := by
  have hs : ∀ g, col g = k' → g < w.heap.size → w1.heap[g]? = w.heap[g]? := fun g hc hlt => hg.block g hlt (fun e => by have := hr g e.symm; omega)
  have h2 := Kd.R_move (w1 := w1) (Kd.R_mono (Kd.R_bound h) (ok' := fun g => col g = k' ∧ g < w.heap.size) (by rintro g ⟨hg, _, hlt, _⟩; exact ⟨hg, hlt⟩)) (by rintro g ⟨hg, hlt⟩; exact hs g hg hlt)
  exact Kd.R_mono h2 (fun g ⟨hc, hlt⟩ => (newCol_lt hlt).trans hc)
/-- The row itself, as it was made. -/
theorem row_new {α : Type} {d : Kd α} {e : Nat} {w w1 : World} {B : Nat} {col : Nat → Nat} {k : Nat} {v : Value} {xs : List α} (h : d.R e w1 B (fun g => col g = k ∨ w.heap.size ≤ g) v xs) : d.R e w1 B (fun g => newCol w col k g = k) v xs :=
  Kd.R_mono h (fun g hc => by
    by_cases hlt : g < w.heap.size
    · rcases hc with hc | hc
      · exact (newCol_lt hlt).trans hc
      · omega
    · exact newCol_ge hlt)
theorem row_own {α : Type} {d : Kd α} {e : Nat} {w : World} {B : Nat} {col : Nat → Nat} {k : Nat} {v : Value} {xs : List α} (h : d.R e w B (fun g => col g = k) v xs) : ∀ g, v.ownBlock = some g → col g = k ∧ B ≤ g := fun g e => ⟨((Kd.R_bound h).1 g e).1, ((Kd.R_bound h).1 g e).2.1⟩
theorem wi_below {w w1 : World} {B : Nat} {row : Option Nat} (hg : w.grownBy w1 row) (hr : ∀ g, row = some g → B ≤ g) (hB : B ≤ w.heap.size) : Below B w w1 := ⟨hg.os, hg.tape, hg.output, hg.size, fun g hlt => hg.block g (by omega) (fun e => by have := hr g e.symm; omega)⟩
theorem info9 : (Try.prog.info? 9).map (fun i => (i.zero, i.size, i.bytes)) = some (some (.string ⟨#[]⟩), 1, 16) := by kernel_rfl
end Go.Proofs.Ytcknocglaimcpaa.WA

/- Drop, where there is no such timer; Set, where it is refused or changes nothing. -/
import Derived.Test.YtcknocglaimcpaaWhF
import Derived.Maps.OwnSet
import Derived.Maps.OwnOps
namespace Go.Proofs.Ytcknocglaimcpaa.WA
open Go.RowKit Go.Proofs.YtcknocglaimcpaaW.PrintWords Go.Proofs.YtcknocglaimcpaaW.PrintLast Go.Proofs.YtcknocglaimcpaaW.PrintMore
open Go.Proofs.Ytcknocglaimcpaa.PW Go.Proofs.Ytcknocglaimcpaa.Wh
set_option linter.unusedVariables false
set_option linter.unusedSimpArgs false
theorem grown_below {w w' : World} (h : Below w.heap.size w w') (row : Option Nat) : w.grownBy w' row := ⟨h.os, h.tape, h.output, h.size, fun i hi _ => h.block i hi⟩
/-- The timers that are not this one are left, in their order; other memory stays. -/
theorem delete_calls (w : World) (base : Nat) (ok : Nat → Prop) (v : Value) (xs : List S38) (y : S38) (g : Nat) (hR : k38.R 38 w base ok v xs) (hl : xs.length ≤ 1000000) (hok : ¬ ok g)
    (h0 : w.cell? ⟨g, 0, none⟩ = some (.string y.f0)) (h1 : w.cell? ⟨g, 1, none⟩ = some (.int .i64 y.f1)) :
    Calls Try.prog 30 #[v, .func (.func 31) #[] #[.pointer (some ⟨g, 0, none⟩)]] w fun e w' => ∃ v', e = .returned v' ∧ k38.R 38 w' base ok v' (xs.filter fun x => !isT y x) ∧ w.grownBy w' v.ownBlock := by
  by_cases hn : ixT y xs 0 = -1
  · have hall := ixT_none y xs 0 hn
    obtain ⟨A, c, rfl, hc, hC⟩ := Kd.R_reads hR
    have hf : xs.filter (fun x => !isT y x) = xs := by
      rw [List.filter_eq_self]
      intro x hx
      rw [hall x hx]
      rfl
    refine (delete_none w A c xs y g hC hl h0 h1 hall).mono ?_
    rintro e w' ⟨rfl, hb⟩
    exact ⟨_, rfl, by rw [hf]; exact Kd.R_below hR hb, grown_below hb _⟩
  · obtain ⟨k, hk, he, _, _⟩ := ixT_some y xs 0 hn
    obtain ⟨g0, cap, rfl, _, _, _⟩ := Kd.R_form hR (by omega)
    refine (delete_some w base ok g0 cap xs y g hR hl hok h0 h1 k hk (by rw [he]; congr 1; omega)).mono ?_
    rintro e w' ⟨rfl, hR', hg⟩
    exact ⟨_, rfl, hR', hg⟩
#print axioms delete_calls
end Go.Proofs.Ytcknocglaimcpaa.WA
namespace Go.Proofs.Ytcknocglaimcpaa.WA
open Go.RowKit Go.Proofs.YtcknocglaimcpaaW.PrintWords Go.Proofs.YtcknocglaimcpaaW.PrintLast Go.Proofs.YtcknocglaimcpaaW.PrintMore
open Go.Proofs.Ytcknocglaimcpaa.PW Go.Proofs.Ytcknocglaimcpaa.Wh Go.Maps
set_option linter.unusedVariables false
set_option linter.unusedSimpArgs false
set_option maxHeartbeats 8000000
set_option maxRecDepth 100000
theorem keyLaw : Keyed Try.prog 9 := string_keyed Try.underlying9
theorem zeroE (w : World) : (zeroValue 3).run Try.prog w = .ok (.int .i64 0) w := by kernel_rfl
/-- At on a made wheel: what the map holds at the key. -/
theorem at_yes (w : World) (b bm n : Nat) (D : DataW Unit) (key : ByteArray) (kl : Lit) (c0 : w.cell? ⟨b, 0, none⟩ = some (.bool true)) (c2 : w.cell? ⟨b, 2, none⟩ = some (.map (some bm)))
    (hown : w.ownsMap Try.prog 9 (plainElem (H := Unit) Try.prog 3) bm n D) (hkey : keyOf Try.prog 9 (.string key) = some kl) :
    Calls Try.prog 24 #[.pointer (some ⟨b, 0, none⟩), .string key] w fun e w' => ∃ c : Int, e = .returned (.tuple #[.int .i64 c, .bool (Maps.has D kl)]) ∧ D.atKey kl (.lit (.int .i64 0)) = .lit (.int .i64 c) ∧ w' = w := by
  have hu := Try.underlying62
  have hno := none_at w b true c0
  have HO := Aside0.mk hown
  have HK := Aside0.mk hkey
  clear hown hkey
  go_enter Try.func24, Try.ntmps24
  go_wp2_with (first | (go_at_call 26; refine hno.mono ?_; rintro e w' ⟨rfl, rfl⟩) | (at_lookup; refine wpList_lookup_own_ok_int _ rfl _ _ 58 rfl 9 3 .i64 keyLaw Try.underlying58 Try.underlying3 (zeroE _) bm n D rfl HO.out _ kl rfl HK.out ?_; intro c hat hwc; have HA := Aside0.mk hat; clear hat hwc))
  go_ret2
  exact ⟨c, rfl, HA.out, rfl⟩
end Go.Proofs.Ytcknocglaimcpaa.WA
namespace Go.Proofs.Ytcknocglaimcpaa.WA
open Go.RowKit Go.Proofs.YtcknocglaimcpaaW.PrintWords Go.Proofs.YtcknocglaimcpaaW.PrintLast Go.Proofs.YtcknocglaimcpaaW.PrintMore
open Go.Proofs.Ytcknocglaimcpaa.PW Go.Proofs.Ytcknocglaimcpaa.Wh Go.Maps
set_option linter.unusedVariables false
set_option linter.unusedSimpArgs false
def ofT (t : Tm) : S38 := ⟨t.1, t.2⟩
/-- What the map holds at a key, as a datum. -/
def dueIs (D : DataW Unit) (due : ByteArray → Option Int) (cnt : Nat) : Prop :=
  Maps.size D = cnt ∧ ∀ (k : ByteArray) (kl : Lit), keyOf Try.prog 9 (.string k) = some kl →
    (Maps.has D kl = (due k).isSome ∧ ∀ a, due k = some a → D.atKey kl (.lit (.int .i64 0)) = .lit (.int .i64 a)) ∧ (due k = none → D.atKey kl (.lit (.int .i64 0)) = .lit (.int .i64 0))
/-- A wheel lies at a block: its cells, its map, its slots, each of which owns its row; 'col' tells each block's owner. -/
structure WAt (w : World) (base : Nat) (col : Nat → Nat) (b bm n : Nat) (D : DataW Unit) (cs : Array Value) (st : St) : Prop where
  hb : w.heap[b]? = some (.cells cs 62 (0, 0))
  sz : cs.size = 195
  c0 : cs[0]? = some (.bool true)
  c1 : cs[1]? = some (.int .i64 st.now)
  c2 : cs[2]? = some (.map (some bm))
  sl : ∀ l k, l < 6 → k < 32 → ∃ v, cs[3 + l * 32 + k]? = some v ∧ k38.R 38 w base (fun g => col g = l * 32 + k) v ((st.slot l k).map ofT)
  bb : base ≤ b
  cb : col b = 200
  cm : col bm = 201
  mp : w.ownsMap Try.prog 9 (plainElem (H := Unit) Try.prog 3) bm n D
  du : dueIs D st.due st.cnt
  bmb : base ≤ bm
theorem WAt.cell {w : World} {base : Nat} {col : Nat → Nat} {b bm n : Nat} {D : DataW Unit} {cs : Array Value} {st : St} (h : WAt w base col b bm n D cs st) {j : Nat} {v : Value} (hv : cs[j]? = some v) : w.cell? ⟨b, j, none⟩ = some v :=
  (blk_cell h.hb j).trans hv
theorem WAt.frozen {w : World} {base : Nat} {col : Nat → Nat} {b bm n : Nat} {D : DataW Unit} {cs : Array Value} {st : St} (h : WAt w base col b bm n D cs st) (j : Nat) : w.frozen? ⟨b, j, none⟩ = false := blk_frozen h.hb j
end Go.Proofs.Ytcknocglaimcpaa.WA
namespace Go.Proofs.Ytcknocglaimcpaa.WA
open Go.RowKit Go.Proofs.YtcknocglaimcpaaW.PrintWords Go.Proofs.YtcknocglaimcpaaW.PrintLast Go.Proofs.YtcknocglaimcpaaW.PrintMore
open Go.Proofs.Ytcknocglaimcpaa.PW Go.Proofs.Ytcknocglaimcpaa.Wh Go.Maps
set_option linter.unusedVariables false
set_option linter.unusedSimpArgs false
theorem owns_same {w w' : World} {bm n : Nat} {D : DataW Unit} (h : w.ownsMap Try.prog 9 (plainElem (H := Unit) Try.prog 3) bm n D) (e : w'.heap[bm]? = w.heap[bm]?) : w'.ownsMap Try.prog 9 (plainElem (H := Unit) Try.prog 3) bm n D := by
  obtain ⟨es, clock, h1, h2⟩ := h
  exact ⟨es, clock, e.trans h1, h2⟩
theorem owns_lt {w : World} {bm n : Nat} {D : DataW Unit} (h : w.ownsMap Try.prog 9 (plainElem (H := Unit) Try.prog 3) bm n D) : bm < w.heap.size := by
  obtain ⟨es, clock, h1, h2⟩ := h
  exact (Array.getElem?_eq_some_iff.1 h1).1
theorem put_calls {w : World} {base : Nat} {col : Nat → Nat} {b bm n : Nat} {D : DataW Unit} {cs : Array Value} {st : St} (h : WAt w base col b bm n D cs st) (hbase : base ≤ w.heap.size) (t : Tm)
    (h0 : 0 ≤ st.now) (h1 : st.now ≤ t.2) (h2 : t.2 ≤ 1000000000) (hlen : (st.slot (lev st.now t.2) (idx (lev st.now t.2) t.2)).length ≤ 1000) :
    Calls Try.prog 27 #[.pointer (some ⟨b, 0, none⟩), .agg #[.string t.1, .int .i64 t.2]] w fun e w' => e = .returned (.tuple #[]) ∧ ∃ col' cs', WAt w' base col' b bm n D cs' { st with slot := put st.now st.slot t } ∧
      (∀ g, g < w.heap.size → col' g = col g) ∧ Below base w w' ∧ (∀ g, g < w.heap.size → 192 ≤ col g → g ≠ b → w'.heap[g]? = w.heap[g]?) := by
  have hl6 := lev_lt st.now t.2
  have hk32 := idx_lt (lev st.now t.2) t.2
  obtain ⟨v, hv, hR⟩ := h.sl _ _ hl6 hk32
  have hbl : b < w.heap.size := (Array.getElem?_eq_some_iff.1 h.hb).1
  have hml := owns_lt h.mp
  have hnb : ¬ (col b = lev st.now t.2 * 32 + idx (lev st.now t.2) t.2 ∨ w.heap.size ≤ b) := by
    rintro (e | e)
    · rw [h.cb] at e; omega
    · omega
  have hpw := put_walk w b st.now t.1 t.2 (h.cell h.c1) h0 h1 h2 base hbase (fun g => col g = lev st.now t.2 * 32 + idx (lev st.now t.2) t.2 ∨ w.heap.size ≤ g) (fun g hg => .inr hg) hnb v _ (by rw [List.length_map]; exact hlen) (h.cell hv) (h.frozen _) (Kd.R_mono hR (fun g hg => .inl hg))
  refine hpw.mono ?_
  rintro e w' ⟨rfl, v1, w1, rfl, hR1, hB1, hF1, hO1⟩
  refine ⟨rfl, fun g => if g < w.heap.size then col g else lev st.now t.2 * 32 + idx (lev st.now t.2) t.2, cs.setIfInBounds (3 + lev st.now t.2 * 32 + idx (lev st.now t.2) t.2) v1, ?_, fun g hg => if_pos hg, ?_, ?_⟩
  · have hvb : ∀ g, v.ownBlock = some g → col g = lev st.now t.2 * 32 + idx (lev st.now t.2) t.2 := hR.1
    have hb1 : w1.heap[b]? = w.heap[b]? := hF1 b hbl (fun e => by have := hvb b e.symm; rw [h.cb] at this; omega)
    have hm1 : w1.heap[bm]? = w.heap[bm]? := hF1 bm hml (fun e => by have := hvb bm e.symm; rw [h.cm] at this; omega)
    have hbb := blk_set (hb1.trans h.hb) (3 + lev st.now t.2 * 32 + idx (lev st.now t.2) t.2) v1
    have hne : bm ≠ b := fun e => by have := h.cm; rw [e, h.cb] at this; omega
    refine ⟨hbb, by rw [Array.size_setIfInBounds]; exact h.sz, ?_, ?_, ?_, ?_, h.bb, ?_, ?_, ?_, h.du, h.bmb⟩
    · rw [Array.getElem?_setIfInBounds_ne (by omega)]; exact h.c0
    · rw [Array.getElem?_setIfInBounds_ne (by omega)]; exact h.c1
    · rw [Array.getElem?_setIfInBounds_ne (by omega)]; exact h.c2
    · intro l k hl hk
      have far : ∀ g, (fun g => (if g < w.heap.size then col g else lev st.now t.2 * 32 + idx (lev st.now t.2) t.2) = l * 32 + k) g → g ≠ b := by
        intro g hg e
        have hg : (if g < w.heap.size then col g else lev st.now t.2 * 32 + idx (lev st.now t.2) t.2) = l * 32 + k := hg
        rw [e, if_pos hbl, h.cb] at hg
        omega
      by_cases e : l = lev st.now t.2 ∧ k = idx (lev st.now t.2) t.2
      · obtain ⟨rfl, rfl⟩ := e
        refine ⟨v1, by rw [Array.getElem?_setIfInBounds_self_of_lt (by have := h.sz; omega)], ?_⟩
        have e2 : (put st.now st.slot t (lev st.now t.2) (idx (lev st.now t.2) t.2)).map ofT = (st.slot (lev st.now t.2) (idx (lev st.now t.2) t.2)).map ofT ++ [⟨t.1, t.2⟩] := by
          unfold put
          rw [upd_same, List.map_append]
          rfl
        show k38.R 38 _ base _ v1 ((put st.now st.slot t (lev st.now t.2) (idx (lev st.now t.2) t.2)).map ofT)
        rw [e2]
        refine Kd.R_far (p := ⟨b, _, none⟩) (Kd.R_mono hR1 ?_) far v1
        rintro g (hg | hg)
        · by_cases hlt : g < w.heap.size
          · rw [if_pos hlt]; exact hg
          · rw [if_neg hlt]
        · rw [if_neg (by omega)]
      · obtain ⟨u, hu, hRu⟩ := h.sl l k hl hk
        have hj : l * 32 + k ≠ lev st.now t.2 * 32 + idx (lev st.now t.2) t.2 := fun e' => e ⟨by omega, by omega⟩
        refine ⟨u, by rw [Array.getElem?_setIfInBounds_ne (by omega)]; exact hu, ?_⟩
        show k38.R 38 _ base _ u ((put st.now st.slot t l k).map ofT)
        have e2 : put st.now st.slot t l k = st.slot l k := upd_other _ _ _ _ e
        rw [e2]
        refine Kd.R_far (p := ⟨b, _, none⟩) ?_ far v1
        have hs := Kd.R_step (w1 := w1) hRu (fun g hg hlt => hF1 g hlt (fun e' => hj (by rw [← hg]; exact hvb g e'.symm)))
        refine Kd.R_move (Kd.R_mono (Kd.R_bound hRu) (ok' := fun g => (if g < w.heap.size then col g else lev st.now t.2 * 32 + idx (lev st.now t.2) t.2) = l * 32 + k) ?_) ?_
        · rintro g ⟨hg, _, hlt, _⟩
          rw [if_pos hlt]
          exact hg
        · intro g hg
          by_cases hlt : g < w.heap.size
          · have hg : (if g < w.heap.size then col g else _) = l * 32 + k := hg
            rw [if_pos hlt] at hg
            exact hF1 g hlt (fun e' => hj (by rw [← hg]; exact hvb g e'.symm))
          · have hg : (if g < w.heap.size then col g else _) = l * 32 + k := hg
            rw [if_neg hlt] at hg
            exact absurd hg.symm hj
    · show (if b < w.heap.size then col b else _) = 200
      rw [if_pos hbl]; exact h.cb
    · show (if bm < w.heap.size then col bm else _) = 201
      rw [if_pos hml]; exact h.cm
    · exact owns_same h.mp ((Below.heap_setCell w1 ⟨b, _, none⟩ v1 bm hne).trans hm1)
  · exact hB1.setCell h.bb _
  · intro g hg h192 hgb
    rw [Below.heap_setCell w1 ⟨b, _, none⟩ v1 g hgb]
    exact hF1 g hg (fun e => by have := hR.1 g e.symm; omega)
end Go.Proofs.Ytcknocglaimcpaa.WA
namespace Go.Proofs.Ytcknocglaimcpaa.WA
open Go.RowKit Go.Proofs.YtcknocglaimcpaaW.PrintWords Go.Proofs.YtcknocglaimcpaaW.PrintLast Go.Proofs.YtcknocglaimcpaaW.PrintMore
open Go.Proofs.Ytcknocglaimcpaa.PW Go.Proofs.Ytcknocglaimcpaa.Wh Go.Maps
set_option linter.unusedVariables false
set_option linter.unusedSimpArgs false
theorem cellsN_size (n : Int) (bm : Nat) : (cellsN n bm).size = 195 := by simp [cellsN, cells0]
theorem cells0_slot (j : Nat) (h : 3 ≤ j) (h2 : j < 195) : cells0[j]? = some (.slice none 0 0) := by
  unfold cells0
  rw [Array.getElem?_append_right (by simpa using h), Array.getElem?_replicate]
  exact if_pos (by simp; omega)
theorem new_calls (w : World) (n : Int) (h0 : 0 ≤ n) (h1 : n ≤ 1000000000) : Calls Try.prog 8 #[.int .i64 n] w fun e w' => ∃ b bm D cs col, e = .returned (.tuple #[.pointer (some ⟨b, 0, none⟩), .int .i64 0]) ∧
    WAt w' w.heap.size col b bm 0 D cs (newS n) ∧ Below w.heap.size w w' ∧ ∀ g, g < w.heap.size → col g = 202 := by
  refine (new_yes w n h0 h1).mono ?_
  rintro e w' ⟨rfl, rfl⟩
  refine ⟨w.heap.size + 1, w.heap.size, .map [], cellsN n w.heap.size, fun g => if g = w.heap.size + 1 then 200 else if g = w.heap.size then 201 else 202, rfl, ?_, below_alloc (below_alloc (Below.refl _ _) _) _, fun g hg => by show (if g = _ then _ else if g = _ then _ else _) = _; rw [if_neg (by omega), if_neg (by omega)]⟩
  refine ⟨?_, cellsN_size _ _, ?_, ?_, ?_, ?_, by omega, by simp, by simp, ?_, ?_, Nat.le_refl _⟩
  · have := blk_new (w.alloc (.map #[] 0)) (.cells (cellsN n w.heap.size) 62)
    simpa using this
  · simp [cellsN, cells0]
  · simp [cellsN, cells0, newS]
  · simp [cellsN, cells0]
  · intro l k hl hk
    refine ⟨.slice none 0 0, ?_, Kd.R_nil _ _ _ _ _⟩
    unfold cellsN
    rw [Array.getElem?_setIfInBounds_ne (by omega), Array.getElem?_setIfInBounds_ne (by omega), Array.getElem?_setIfInBounds_ne (by omega)]
    exact cells0_slot _ (by omega) (by omega)
  · refine owns_same (World.ownsMap_made _ _ _ _) ?_
    exact (below_alloc (Below.refl _ (w.alloc (.map #[] 0))) _).block _ (by simp)
  · refine ⟨rfl, fun k kl _ => ⟨⟨rfl, fun a ha => ?_⟩, fun _ => rfl⟩⟩
    simp [newS] at ha
end Go.Proofs.Ytcknocglaimcpaa.WA
namespace Go.Proofs.Ytcknocglaimcpaa.WA
open Go.RowKit Go.Proofs.YtcknocglaimcpaaW.PrintWords Go.Proofs.YtcknocglaimcpaaW.PrintLast Go.Proofs.YtcknocglaimcpaaW.PrintMore
open Go.Proofs.Ytcknocglaimcpaa.PW Go.Proofs.Ytcknocglaimcpaa.Wh Go.Maps
set_option linter.unusedVariables false
set_option linter.unusedSimpArgs false
theorem now_calls {w : World} {base : Nat} {col : Nat → Nat} {b bm n : Nat} {D : DataW Unit} {cs : Array Value} {st : St} (h : WAt w base col b bm n D cs st) :
    Calls Try.prog 11 #[.pointer (some ⟨b, 0, none⟩)] w fun e w' => e = .returned (.int .i64 st.now) ∧ w' = w := now_at w b st.now (h.cell h.c0) (h.cell h.c1)
theorem at_calls {w : World} {base : Nat} {col : Nat → Nat} {b bm n : Nat} {D : DataW Unit} {cs : Array Value} {st : St} (h : WAt w base col b bm n D cs st) (key : ByteArray) {kl : Lit} (hkey : keyOf Try.prog 9 (.string key) = some kl) :
    Calls Try.prog 24 #[.pointer (some ⟨b, 0, none⟩), .string key] w fun e w' => e = .returned (.tuple #[.int .i64 ((st.due key).getD 0), .bool (st.due key).isSome]) ∧ w' = w := by
  refine (at_yes w b bm n D key kl (h.cell h.c0) (h.cell h.c2) h.mp hkey).mono ?_
  rintro e w' ⟨c, rfl, hc, rfl⟩
  obtain ⟨⟨h1, h2⟩, h3⟩ := h.du.2 key kl hkey
  refine ⟨?_, rfl⟩
  rw [h1]
  cases hd : st.due key with
  | none =>
    have := h3 hd
    rw [hc] at this
    obtain rfl : c = 0 := by injection this with this; injection this
    rfl
  | some a =>
    have := h2 a hd
    rw [hc] at this
    obtain rfl : c = a := by injection this with this; injection this
    rfl
end Go.Proofs.Ytcknocglaimcpaa.WA
namespace Go.Proofs.Ytcknocglaimcpaa.WA
open Go.RowKit Go.Proofs.YtcknocglaimcpaaW.PrintWords Go.Proofs.YtcknocglaimcpaaW.PrintLast Go.Proofs.YtcknocglaimcpaaW.PrintMore
open Go.Proofs.Ytcknocglaimcpaa.PW Go.Proofs.Ytcknocglaimcpaa.Wh Go.Maps
set_option linter.unusedVariables false
set_option linter.unusedSimpArgs false
set_option maxHeartbeats 8000000
set_option maxRecDepth 100000
theorem drop_no {w : World} {base : Nat} {col : Nat → Nat} {b bm n : Nat} {D : DataW Unit} {cs : Array Value} {st : St} (h : WAt w base col b bm n D cs st) (key : ByteArray) {kl : Lit} (hkey : keyOf Try.prog 9 (.string key) = some kl) (hno : st.due key = none) :
    Calls Try.prog 20 #[.pointer (some ⟨b, 0, none⟩), .string key] w fun e w' => e = .returned (.bool false) ∧ w' = w := by
  have hu := Try.underlying62
  have hn := none_at w b true (h.cell h.c0)
  have c2 := h.cell h.c2
  have HO := Aside0.mk h.mp
  have HK := Aside0.mk hkey
  have hh : Maps.has D kl = false := by rw [(h.du.2 key kl hkey).1.1, hno]; rfl
  clear hkey hno h
  go_enter Try.func20, Try.ntmps20
  go_wp2_with (first | (go_at_call 26; refine hn.mono ?_; rintro e w' ⟨rfl, rfl⟩) | (at_lookup; refine wpList_lookup_own_ok_int _ rfl _ _ 58 rfl 9 3 .i64 keyLaw Try.underlying58 Try.underlying3 (zeroE _) bm n D rfl HO.out _ kl rfl HK.out ?_; intro c hat hwc; rw [hh]; have HA := Aside0.mk hat; clear hat hwc))
  go_ret
  exact ⟨rfl, rfl⟩
end Go.Proofs.Ytcknocglaimcpaa.WA

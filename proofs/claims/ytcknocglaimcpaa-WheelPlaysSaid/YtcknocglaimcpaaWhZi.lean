/- The document's wheel: one list. -/
import Derived.Test.YtcknocglaimcpaaWhZe
namespace Go.Proofs.Ytcknocglaimcpaa.WA
open Go.RowKit Go.Proofs.YtcknocglaimcpaaW.PrintWords Go.Proofs.YtcknocglaimcpaaW.PrintLast Go.Proofs.YtcknocglaimcpaaW.PrintMore
open Go.Proofs.Ytcknocglaimcpaa.PW Go.Proofs.Ytcknocglaimcpaa.Wh Go.Maps
set_option linter.unusedVariables false
set_option linter.unusedSimpArgs false
set_option maxHeartbeats 8000000
set_option maxRecDepth 100000
theorem baT {a b : ByteArray} : a.toList = b.toList ↔ a = b := by
  constructor
  · intro h
    rw [ByteArray.toList_eq, ByteArray.toList_eq] at h
    exact ba_ext h
  · rintro rfl; rfl
/-- The first timer of a key. -/
def lk : List Tm → ByteArray → Option Int
  | [], _ => none
  | t :: l, k => if t.1 = k then some t.2 else lk l k
theorem lk_mem : ∀ (L : List Tm) (k : ByteArray) (a : Int), lk L k = some a → (k, a) ∈ L
  | [], _, _, h => by cases h
  | t :: l, k, a, h => by
    unfold lk at h
    split at h
    · next e => rw [← Option.some.inj h, ← e]; exact List.mem_cons_self ..
    · exact List.mem_cons_of_mem _ (lk_mem l k a h)
theorem lk_none : ∀ (L : List Tm) (k : ByteArray), lk L k = none → ∀ t ∈ L, t.1 ≠ k
  | [], _, _, t, ht => absurd ht (by simp)
  | u :: l, k, h, t, ht => by
    unfold lk at h
    split at h
    · cases h
    · next e =>
      rcases List.mem_cons.1 ht with rfl | ht
      · exact e
      · exact lk_none l k h t ht
theorem rel_lk {st : St} {L : List Tm} (h : Rel st L) (k : ByteArray) : st.due k = lk L k := by
  cases hl : lk L k with
  | some a => exact (h.du k a).2 (lk_mem L k a hl)
  | none =>
    cases hd : st.due k with
    | none => rfl
    | some a => exact absurd rfl (lk_none L k hl _ ((h.du k a).1 hd))
/-- The document's wheel in memory. -/
structure DA (w : World) (r : Nat) (time : Int) (A : Option Addr) (n c : Nat) (L : List Tm) : Prop where
  hb : w.heap[r]? = some (.cells #[.int .i64 time, .slice A n c] 51 (0, 0))
  nn : n = L.length
  nc : n ≤ c
  rd : Kd.C k38 w A n (L.map ofT)
  ab : ∀ ad, A = some ad → 0 < n → ad.block ≠ r
theorem DA.c0 {w : World} {r : Nat} {time : Int} {A : Option Addr} {n c : Nat} {L : List Tm} (h : DA w r time A n c L) : w.cell? ⟨r, 0, none⟩ = some (.int .i64 time) := (blk_cell h.hb 0).trans rfl
theorem DA.c1 {w : World} {r : Nat} {time : Int} {A : Option Addr} {n c : Nat} {L : List Tm} (h : DA w r time A n c L) : w.cell? ⟨r, 1, none⟩ = some (.slice A n c) := (blk_cell h.hb 1).trans rfl
theorem DA.lt {w : World} {r : Nat} {time : Int} {A : Option Addr} {n c : Nat} {L : List Tm} (h : DA w r time A n c L) : r < w.heap.size := (Array.getElem?_eq_some_iff.1 h.hb).1
/-- A timer of the list, in memory. -/
theorem DA.at {w : World} {r : Nat} {time : Int} {A : Option Addr} {n c : Nat} {L : List Tm} (h : DA w r time A n c L) (i : Nat) (hi : i < n) : ∃ ad t, A = some ad ∧ L[i]? = some t ∧ w.cell? (ad.add (i * 2)) = some (.string t.1) ∧ w.cell? ⟨(ad.add (i * 2)).block, (ad.add (i * 2)).off + 1, none⟩ = some (.int .i64 t.2) := by
  have hi2 : i < L.length := by rw [← h.nn]; exact hi
  obtain ⟨ad, hA, c0, c1⟩ := at_T38 h.rd (i : Int) (by omega) (by omega)
  have hrd : rd_T38 (L.map ofT) (i : Int) = ⟨L[i].1, L[i].2⟩ := by
    unfold rd_T38
    simp [List.getD, hi2, ofT]
  rw [hrd, Int.toNat_natCast] at c0 c1
  exact ⟨ad, L[i], hA, List.getElem?_eq_getElem hi2, c0, c1⟩
theorem drop_at {L : List Tm} {i : Nat} {t : Tm} (h : L[i]? = some t) : L.drop i = t :: L.drop (i + 1) := by
  obtain ⟨hi, e⟩ := List.getElem?_eq_some_iff.1 h
  rw [List.drop_eq_getElem_cons hi, e]
theorem take_at {L : List Tm} {i : Nat} {t : Tm} (h : L[i]? = some t) : L.take (i + 1) = L.take i ++ [t] := by
  obtain ⟨hi, e⟩ := List.getElem?_eq_some_iff.1 h
  rw [List.take_succ_eq_append_getElem hi, e]
theorem dnew_no (w : World) (n : Int) (h : n < 0 ∨ n > 1000000000) : Calls Try.prog 18 #[.int .i64 n] w fun e w' => e = .returned (.tuple #[.pointer none, .int .i64 2]) ∧ w' = w := by
  by_cases h1 : n < 0
  · have h1b : decide (n < 0) = true := decide_eq_true h1
    clear h
    go_enter Try.func18, Try.ntmps18
    go_wp2
    go_ret2
    exact ⟨rfl, rfl⟩
  · have h1b : decide (n < 0) = false := decide_eq_false h1
    have h2b : decide (1000000000 < n) = true := decide_eq_true (by omega)
    clear h
    go_enter Try.func18, Try.ntmps18
    go_wp2
    go_ret2
    exact ⟨rfl, rfl⟩
theorem dnew_yes (w : World) (n : Int) (h0 : 0 ≤ n) (h1 : n ≤ 1000000000) : Calls Try.prog 18 #[.int .i64 n] w fun e w' => e = .returned (.tuple #[.pointer (some ⟨w.heap.size, 0, none⟩), .int .i64 0]) ∧ w' = w.alloc (.cells #[.int .i64 n, .slice none 0 0] 51) := by
  have h1b : decide (n < 0) = false := decide_eq_false (by omega)
  have h2b : decide (1000000000 < n) = false := decide_eq_false (by omega)
  have hu := Try.underlying51
  clear h0 h1
  go_enter Try.func18, Try.ntmps18
  go_wp2
  go_ret2
  exact ⟨rfl, by first | rfl | simp⟩
theorem dat_calls {w : World} {r : Nat} {time : Int} {A : Option Addr} {n c : Nat} {L : List Tm} (h : DA w r time A n c L) (hl : n ≤ 1000000) (key : ByteArray) :
    Calls Try.prog 25 #[.pointer (some ⟨r, 0, none⟩), .string key] w fun e w' => e = .returned (.tuple #[.int .i64 ((lk L key).getD 0), .bool (lk L key).isSome]) ∧ w' = w := by
  have hu := Try.underlying51
  have hu38 := Try.underlying38
  have c1 := h.c1
  have H := Aside0.mk h
  have HL := Aside0.mk hl
  obtain ⟨x, hx⟩ : ∃ x, x = (lk L key).getD 0 := ⟨_, rfl⟩
  obtain ⟨y, hy⟩ : ∃ y, y = (lk L key).isSome := ⟨_, rfl⟩
  rw [← hx, ← hy]
  have HX := Aside0.mk (And.intro hx hy)
  clear h hl hx hy
  go_enter Try.func25, Try.ntmps25
  go_wp2
  go_loopg [6] n (fun kq v6 w' => ∃ i : Nat, v6 = .int .i64 i ∧ Aside0 (i + kq = n ∧ lk (L.drop i) key = lk L key) ∧ Aside0 (w' = w))
  case atStart => exact ⟨0, rfl, ⟨by omega, rfl⟩, ⟨rfl⟩⟩
  case round =>
    obtain ⟨i, rfl, HI, HW⟩ := hrel
    have hw := HW.out
    subst hw
    by_cases hi : i < n
    case neg =>
      have hib : decide (i < n) = false := decide_eq_false hi
      have HE : Aside0 (x = 0 ∧ y = false) := ⟨by
        have e := HI.out.2
        rw [List.drop_of_length_le (by rw [← H.out.nn]; omega)] at e
        rw [HX.out.1, HX.out.2, ← e]
        exact ⟨rfl, rfl⟩⟩
      clear hi
      go_wp2
      go_ret2
      exact ⟨by rw [HE.out.1, HE.out.2]; rfl, rfl⟩
    have hib : decide (i < n) = true := decide_eq_true hi
    obtain ⟨ad, t, hA, ht, d0, d1⟩ := H.out.at i hi
    have HT := Aside0.mk ht
    have HIL := Aside0.mk hi
    have hw1 : Aside0 (wrap64 ((i : Int) + 1) = ((i + 1 : Nat) : Int)) := ⟨by have := HL.out; rw [wrap64_is (by omega) (by omega)]; omega⟩
    have HN : Aside0 (lk L key = if t.1 = key then some t.2 else lk (L.drop (i + 1)) key) := ⟨by rw [← HI.out.2, drop_at ht]; rfl⟩
    have hir : (0 : Int) ≤ (i : Int) := by omega
    have hil : (i : Int) < (n : Int) := by omega
    subst hA
    clear ht hi
    by_cases hk : t.1 = key
    · have hkt : t.1.toList = key.toList := by rw [hk]
      have hkb : (t.1.toList == key.toList) = true := beq_iff_eq.2 hkt
      have HR : Aside0 (x = t.2 ∧ y = true) := ⟨by rw [HX.out.1, HX.out.2, HN.out, if_pos hk]; exact ⟨rfl, rfl⟩⟩
      clear hk
      go_wp2
      go_ret2
      exact ⟨by rw [HR.out.1, HR.out.2]; rfl, rfl⟩
    · have hkt : (t.1.toList = key.toList) = False := eq_false (fun e => hk (baT.1 e))
      have hkb : (t.1.toList == key.toList) = false := beq_eq_false_iff_ne.2 (fun e => hk (baT.1 e))
      have HR : Aside0 (lk (L.drop (i + 1)) key = lk L key) := ⟨by rw [HN.out, if_neg hk]⟩
      clear hk
      go_wp2
      go_roundg (gk - 1)
      case measure => have := HI.out.1; have := HIL.out; omega
      case rel => exact ⟨i + 1, by first | rw [hw1.out] | (push_cast; rfl), ⟨by have := HI.out.1; have := HIL.out; omega, HR.out⟩, ⟨rfl⟩⟩
end Go.Proofs.Ytcknocglaimcpaa.WA

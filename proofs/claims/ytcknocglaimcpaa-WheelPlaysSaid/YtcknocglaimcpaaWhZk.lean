/- The document's wheel: Skip and Tick. -/
import Derived.Test.YtcknocglaimcpaaWhZj
namespace Go.Proofs.Ytcknocglaimcpaa.WA
open Go.RowKit Go.Proofs.YtcknocglaimcpaaW.PrintWords Go.Proofs.YtcknocglaimcpaaW.PrintLast Go.Proofs.YtcknocglaimcpaaW.PrintMore
open Go.Proofs.Ytcknocglaimcpaa.PW Go.Proofs.Ytcknocglaimcpaa.Wh Go.Maps
set_option linter.unusedVariables false
set_option linter.unusedSimpArgs false
set_option maxHeartbeats 8000000
set_option maxRecDepth 100000
theorem pre_at {L : List Tm} {i : Nat} {t : Tm} (h : L[i]? = some t) (tt : Int) : pre tt (L.drop i) = if t.2 ≤ tt then pre tt (L.drop (i + 1)) + 1 else 0 := by
  rw [drop_at h]; rfl
/-- A wheel's row is cut. -/
theorem DA.cut {w : World} {r : Nat} {time : Int} {A : Option Addr} {n c : Nat} {L : List Tm} (h : DA w r time A n c L) (k : Nat) (hk : k ≤ n) :
    DA (w.setCell ⟨r, 1, none⟩ (.slice (if c = k then A else A.map (·.add (k * 2))) (n - k) (c - k))) r time (if c = k then A else A.map (·.add (k * 2))) (n - k) (c - k) (L.drop k) ∧
      w.grownBy (w.setCell ⟨r, 1, none⟩ (.slice (if c = k then A else A.map (·.add (k * 2))) (n - k) (c - k))) (some r) ∧ Src w A n (if c = k then A else A.map (·.add (k * 2))) (n - k) ∧
      Kd.C k38 w A k ((L.take k).map ofT) := by
  have hnn := h.nn
  have hnc := h.nc
  have hl : (L.map ofT).length = n := by rw [List.length_map, hnn]
  have hrd : Kd.C k38 w A (L.map ofT).length (L.map ofT) := by rw [hl]; exact h.rd
  have hd := Kd.C_drop hrd (m := k) (by rw [hl]; exact hk) (by rw [hl]; exact hnc)
  rw [List.length_drop, hl, ← List.map_drop] at hd
  have ht := Kd.C_take hrd (m := k) (by rw [hl]; exact hk)
  rw [List.length_take, hl, Nat.min_eq_left hk, ← List.map_take] at ht
  have hA : ∀ ad', (if c = k then A else A.map (·.add (k * 2))) = some ad' → ∃ ad, A = some ad ∧ ad'.block = ad.block := by
    intro ad' e
    split at e
    · exact ⟨ad', e, rfl⟩
    · obtain ⟨ad, e1, rfl⟩ := Option.map_eq_some_iff.1 e
      exact ⟨ad, e1, by unfold Addr.add; split <;> rfl⟩
  refine ⟨h.set1 (by rw [List.length_drop, hnn]) (by omega) hd ?_, grown_set _ _ _ _, ?_, ht⟩
  · intro ad' e hp
    obtain ⟨ad, e1, e2⟩ := hA ad' e
    rw [e2]
    exact h.ab ad e1 (by omega)
  · intro ad' e hp
    obtain ⟨ad, e1, e2⟩ := hA ad' e
    exact .inr ⟨ad, e1, by omega, e2⟩
/-- A row that is read stays where one other block turns. -/
theorem C_grown {w w' : World} {r : Nat} {A : Option Addr} {n : Nat} {xs : List S38} (h : Kd.C k38 w A n xs) (hg : w.grownBy w' (some r)) (ha : ∀ ad, A = some ad → 0 < n → ad.block ≠ r) : Kd.C k38 w' A n xs :=
  C_stay (S := fun g => g = r) h hg.size (fun g hlt hne => hg.block g hlt (fun e => hne (Option.some.inj e))) ha
theorem dskip_bad (w : World) (r : Nat) (n : Int) (h : n < 0 ∨ n > 100000) : Calls Try.prog 23 #[.pointer (some ⟨r, 0, none⟩), .int .i64 n] w fun e w' => e = .returned (.tuple #[.slice none 0 0, .int .i64 2]) ∧ w' = w := by
  by_cases h1 : n < 0
  · have h1b : decide (n < 0) = true := decide_eq_true h1
    clear h
    go_enter Try.func23, Try.ntmps23
    go_wp2
    go_ret2
    exact ⟨rfl, rfl⟩
  · have h1b : decide (n < 0) = false := decide_eq_false h1
    have h2b : decide (100000 < n) = true := decide_eq_true (by omega)
    clear h
    go_enter Try.func23, Try.ntmps23
    go_wp2
    go_ret2
    exact ⟨rfl, rfl⟩
/-- What Skip leaves. -/
def SkipQ (w : World) (r : Nat) (time : Int) (A : Option Addr) (n c : Nat) (L : List Tm) (tt : Int) (w' : World) : Prop := ∃ A', DA w' r tt A' (n - pre tt L) (c - pre tt L) (L.drop (pre tt L)) ∧ w.grownBy w' (some r) ∧ Src w A n A' (n - pre tt L) ∧ Kd.C k38 w' A (pre tt L) ((L.take (pre tt L)).map ofT)
theorem skip_end {w : World} {r : Nat} {time : Int} {A : Option Addr} {n c : Nat} {L : List Tm} (h : DA w r time A n c L) (tt : Int) :
    SkipQ w r time A n c L tt ((w.setCell ⟨r, 1, none⟩ (.slice (if c = pre tt L then A else A.map (·.add (pre tt L * 2))) (n - pre tt L) (c - pre tt L))).setCell ⟨r, 0, none⟩ (.int .i64 tt)) := by
  have hle := pre_le tt L
  have hnn := h.nn
  obtain ⟨q1, q2, q3, q4⟩ := h.cut (pre tt L) (by omega)
  have hg := grown_trans q2 (grown_set _ r 0 (.int .i64 tt))
  exact ⟨_, q1.set0 tt, hg, q3, C_grown q4 hg (fun ad e hp => h.ab ad e (by omega))⟩
theorem dskip_hi {w : World} {r : Nat} {time : Int} {A : Option Addr} {n c : Nat} {L : List Tm} (h : DA w r time A n c L) (hl : n ≤ 1000) (m T : Int) (h0 : 0 ≤ m) (hm : m ≤ 100000) (ht : 0 ≤ time ∧ time ≤ 1000000000) (hT : T = time + m) (hto : 1000000000 < T) :
    Calls Try.prog 23 #[.pointer (some ⟨r, 0, none⟩), .int .i64 m] w fun e w' => e = .returned (.tuple #[.slice A (pre 1000000000 L) c, .int .i64 0]) ∧ SkipQ w r time A n c L 1000000000 w' := by
  have hu := Try.underlying51
  have hu38 := Try.underlying38
  have h1b : decide (m < 0) = false := decide_eq_false (by omega)
  have h2b : decide (100000 < m) = false := decide_eq_false (by omega)
  have h3b : decide (1000000000 < T) = true := decide_eq_true (by omega)
  have e6 : wrap64 (time + m) = T := by rw [wrap64_is (by omega) (by omega), hT]
  have c0 := h.c0
  have c1 := h.c1
  have f1 : w.frozen? ⟨r, 1, none⟩ = false := blk_frozen h.hb 1
  have cs0 : ∀ v, (w.setCell ⟨r, 1, none⟩ v).cell? ⟨r, 0, none⟩ = some (.int .i64 time) := fun v => (blk_cell (blk_set h.hb 1 v) 0).trans rfl
  have fs0 : ∀ v, (w.setCell ⟨r, 1, none⟩ v).frozen? ⟨r, 0, none⟩ = false := fun v => blk_frozen (blk_set h.hb 1 v) 0
  have H := Aside0.mk h
  have HL := Aside0.mk hl
  clear h hl hm h0 ht hT hto
  go_enter Try.func23, Try.ntmps23
  go_wp2
  rw [e6]
  clear e6
  go_loopg [7] n (fun kq v7 w2 => ∃ i : Nat, v7 = .int .i64 i ∧ Aside0 (i + kq = n ∧ i + pre 1000000000 (L.drop i) = pre 1000000000 L) ∧ Aside0 (w2 = w))
  case atStart => exact ⟨0, rfl, ⟨by omega, by rw [Nat.zero_add]; rfl⟩, ⟨rfl⟩⟩
  case round =>
    obtain ⟨i, rfl, HI, HW⟩ := hrel
    have hw := HW.out
    subst hw
    have HC := H.out.nc
    have endP : Aside0 (pre 1000000000 (L.drop i) = 0 → i = pre 1000000000 L) := ⟨by have := HI.out.2; omega⟩
    by_cases hi : i < n
    case neg =>
      have hib : decide (i < n) = false := decide_eq_false hi
      have HE : Aside0 (i = pre 1000000000 L) := ⟨endP.out (by rw [List.drop_of_length_le (by rw [← H.out.nn]; omega)]; rfl)⟩
      have hin : i ≤ n := by have := HI.out.1; omega
      have hini : (i : Int) ≤ (n : Int) := by omega
      have hin0 : (0 : Int) ≤ (i : Int) := by omega
      have hic : i ≤ c := by omega
      clear hi
      have HQ := Aside0.mk (skip_end H.out 1000000000)
      go_wp2
      all_goals
        go_ret2
        refine ⟨by rw [HE.out]; rfl, ?_⟩
        have q := HQ.out
        rw [← HE.out] at q
        first
          | (rw [if_neg (by assumption)] at q; exact q)
          | (have hc : c = i := by assumption
             rw [if_pos hc] at q
             subst hc
             rw [Nat.sub_self] at q
             exact q)
    have hib : decide (i < n) = true := decide_eq_true hi
    obtain ⟨ad, t, hA, ht, d0, d1⟩ := H.out.at i hi
    have HN := Aside0.mk (pre_at ht 1000000000)
    have HIL := Aside0.mk hi
    have hw1 : Aside0 (wrap64 ((i : Int) + 1) = ((i + 1 : Nat) : Int)) := ⟨by have := HL.out; rw [wrap64_is (by omega) (by omega)]; omega⟩
    have hir : (0 : Int) ≤ (i : Int) := by omega
    have hil : (i : Int) < (n : Int) := by omega
    by_cases hk : t.2 ≤ 1000000000
    · have hkb : decide (t.2 ≤ 1000000000) = true := decide_eq_true hk
      have HR : Aside0 (i + 1 + pre 1000000000 (L.drop (i + 1)) = pre 1000000000 L) := ⟨by have h1 := HN.out; rw [if_pos hk] at h1; have := HI.out.2; omega⟩
      subst hA
      clear hk ht hi
      go_wp2
      go_roundg (gk - 1)
      case measure => have := HI.out.1; have := HIL.out; omega
      case rel => exact ⟨i + 1, by first | rw [hw1.out] | (push_cast; rfl), ⟨by have := HI.out.1; have := HIL.out; omega, HR.out⟩, ⟨rfl⟩⟩
    · have hkb : decide (t.2 ≤ 1000000000) = false := decide_eq_false hk
      have HE : Aside0 (i = pre 1000000000 L) := ⟨endP.out (by rw [HN.out, if_neg hk])⟩
      have hin : i ≤ n := by omega
      have hini : (i : Int) ≤ (n : Int) := by omega
      have hic : i ≤ c := by omega
      have hci : ¬ c = i := by omega
      have HQ := Aside0.mk (skip_end H.out 1000000000)
      subst hA
      clear hk ht hi
      go_wp2
      all_goals
        go_ret2
        refine ⟨by rw [HE.out]; rfl, ?_⟩
        have q := HQ.out
        rw [← HE.out] at q
        rw [if_neg hci] at q
        exact q
theorem dskip_lo {w : World} {r : Nat} {time : Int} {A : Option Addr} {n c : Nat} {L : List Tm} (h : DA w r time A n c L) (hl : n ≤ 1000) (m T : Int) (h0 : 0 ≤ m) (hm : m ≤ 100000) (ht : 0 ≤ time ∧ time ≤ 1000000000) (hT : T = time + m) (hto : T ≤ 1000000000) :
    Calls Try.prog 23 #[.pointer (some ⟨r, 0, none⟩), .int .i64 m] w fun e w' => e = .returned (.tuple #[.slice A (pre T L) c, .int .i64 0]) ∧ SkipQ w r time A n c L T w' := by
  have hu := Try.underlying51
  have hu38 := Try.underlying38
  have h1b : decide (m < 0) = false := decide_eq_false (by omega)
  have h2b : decide (100000 < m) = false := decide_eq_false (by omega)
  have h3b : decide (1000000000 < T) = false := decide_eq_false (by omega)
  have e6 : wrap64 (time + m) = T := by rw [wrap64_is (by omega) (by omega), hT]
  have c0 := h.c0
  have c1 := h.c1
  have f1 : w.frozen? ⟨r, 1, none⟩ = false := blk_frozen h.hb 1
  have cs0 : ∀ v, (w.setCell ⟨r, 1, none⟩ v).cell? ⟨r, 0, none⟩ = some (.int .i64 time) := fun v => (blk_cell (blk_set h.hb 1 v) 0).trans rfl
  have fs0 : ∀ v, (w.setCell ⟨r, 1, none⟩ v).frozen? ⟨r, 0, none⟩ = false := fun v => blk_frozen (blk_set h.hb 1 v) 0
  have H := Aside0.mk h
  have HL := Aside0.mk hl
  clear h hl hm h0 ht hT hto
  go_enter Try.func23, Try.ntmps23
  go_wp2
  rw [e6]
  clear e6
  go_loopg [7] n (fun kq v7 w2 => ∃ i : Nat, v7 = .int .i64 i ∧ Aside0 (i + kq = n ∧ i + pre T (L.drop i) = pre T L) ∧ Aside0 (w2 = w))
  case atStart => exact ⟨0, rfl, ⟨by omega, by rw [Nat.zero_add]; rfl⟩, ⟨rfl⟩⟩
  case round =>
    obtain ⟨i, rfl, HI, HW⟩ := hrel
    have hw := HW.out
    subst hw
    have HC := H.out.nc
    have endP : Aside0 (pre T (L.drop i) = 0 → i = pre T L) := ⟨by have := HI.out.2; omega⟩
    by_cases hi : i < n
    case neg =>
      have hib : decide (i < n) = false := decide_eq_false hi
      have HE : Aside0 (i = pre T L) := ⟨endP.out (by rw [List.drop_of_length_le (by rw [← H.out.nn]; omega)]; rfl)⟩
      have hin : i ≤ n := by have := HI.out.1; omega
      have hini : (i : Int) ≤ (n : Int) := by omega
      have hin0 : (0 : Int) ≤ (i : Int) := by omega
      have hic : i ≤ c := by omega
      clear hi
      have HQ := Aside0.mk (skip_end H.out T)
      go_wp2
      all_goals
        go_ret2
        refine ⟨by rw [HE.out]; rfl, ?_⟩
        have q := HQ.out
        rw [← HE.out] at q
        first
          | (rw [if_neg (by assumption)] at q; exact q)
          | (have hc : c = i := by assumption
             rw [if_pos hc] at q
             subst hc
             rw [Nat.sub_self] at q
             exact q)
    have hib : decide (i < n) = true := decide_eq_true hi
    obtain ⟨ad, t, hA, ht, d0, d1⟩ := H.out.at i hi
    have HN := Aside0.mk (pre_at ht T)
    have HIL := Aside0.mk hi
    have hw1 : Aside0 (wrap64 ((i : Int) + 1) = ((i + 1 : Nat) : Int)) := ⟨by have := HL.out; rw [wrap64_is (by omega) (by omega)]; omega⟩
    have hir : (0 : Int) ≤ (i : Int) := by omega
    have hil : (i : Int) < (n : Int) := by omega
    by_cases hk : t.2 ≤ T
    · have hkb : decide (t.2 ≤ T) = true := decide_eq_true hk
      have HR : Aside0 (i + 1 + pre T (L.drop (i + 1)) = pre T L) := ⟨by have h1 := HN.out; rw [if_pos hk] at h1; have := HI.out.2; omega⟩
      subst hA
      clear hk ht hi
      go_wp2
      go_roundg (gk - 1)
      case measure => have := HI.out.1; have := HIL.out; omega
      case rel => exact ⟨i + 1, by first | rw [hw1.out] | (push_cast; rfl), ⟨by have := HI.out.1; have := HIL.out; omega, HR.out⟩, ⟨rfl⟩⟩
    · have hkb : decide (t.2 ≤ T) = false := decide_eq_false hk
      have HE : Aside0 (i = pre T L) := ⟨endP.out (by rw [HN.out, if_neg hk])⟩
      have hin : i ≤ n := by omega
      have hini : (i : Int) ≤ (n : Int) := by omega
      have hic : i ≤ c := by omega
      have hci : ¬ c = i := by omega
      have HQ := Aside0.mk (skip_end H.out T)
      subst hA
      clear hk ht hi
      go_wp2
      all_goals
        go_ret2
        refine ⟨by rw [HE.out]; rfl, ?_⟩
        have q := HQ.out
        rw [← HE.out] at q
        rw [if_neg hci] at q
        exact q
theorem dtick_far {w : World} {r : Nat} {A : Option Addr} {n c : Nat} {L : List Tm} (h : DA w r 1000000000 A n c L) : Calls Try.prog 22 #[.pointer (some ⟨r, 0, none⟩)] w fun e w' => e = .returned (.slice none 0 0) ∧ w' = w := by
  have hu := Try.underlying51
  have c0 := h.c0
  clear h
  go_enter Try.func22, Try.ntmps22
  go_wp2
  go_ret
  exact ⟨rfl, rfl⟩
theorem tick_end {w wr : World} {r : Nat} {time T : Int} {A : Option Addr} {n c : Nat} {L : List Tm} (h : DA w r time A n c L) (hb : Below (w.setCell ⟨r, 0, none⟩ (.int .i64 T)).heap.size (w.setCell ⟨r, 0, none⟩ (.int .i64 T)) wr) :
    SkipQ w r time A n c L T (wr.setCell ⟨r, 1, none⟩ (.slice (if c = pre T L then A else A.map (·.add (pre T L * 2))) (n - pre T L) (c - pre T L))) := by
  have hle := pre_le T L
  have hnn := h.nn
  have h1 := (h.set0 T).grow hb
  obtain ⟨q1, q2, q3, q4⟩ := h1.cut (pre T L) (by omega)
  exact ⟨_, q1, grown_trans (grown_trans (grown_set w r 0 (.int .i64 T)) (grown_below hb _)) q2, Src.trans (Src.refl _ _ _) (by have h1 := hb.size; have h2 := (grown_set w r 0 (.int .i64 T)).size; omega) q3, C_grown q4 q2 (fun ad e hp => h.ab ad e (by omega))⟩
theorem dtick_calls {w : World} {r : Nat} {time : Int} {A : Option Addr} {n c : Nat} {L : List Tm} (h : DA w r time A n c L) (hl : n ≤ 1000) (T : Int) (ht : 0 ≤ time ∧ time < 1000000000) (hT : T = time + 1) (hlt : ∀ t ∈ L, time < t.2) :
    Calls Try.prog 22 #[.pointer (some ⟨r, 0, none⟩)] w fun e w' => e = .returned (.slice A (pre T L) c) ∧ SkipQ w r time A n c L T w' := by
  have hu := Try.underlying51
  have hu38 := Try.underlying38
  have h1b : decide (time = 1000000000) = false := decide_eq_false (by omega)
  have h1e : (time == 1000000000) = false := beq_eq_false_iff_ne.2 (by omega)
  have e6 : wrap64 (time + 1) = T := by rw [wrap64_is (by omega) (by omega), hT]
  have c0 := h.c0
  have f0 : w.frozen? ⟨r, 0, none⟩ = false := blk_frozen h.hb 0
  have H := Aside0.mk h
  have HL := Aside0.mk hl
  have HT := Aside0.mk (And.intro hT hlt)
  clear h hl ht hT hlt
  go_enter Try.func22, Try.ntmps22
  go_wp2
  rw [e6]
  clear e6 c0 f0
  obtain ⟨w1, hw1⟩ : ∃ w1, w1 = w.setCell ⟨r, 0, none⟩ (.int .i64 T) := ⟨_, rfl⟩
  rw [← hw1]
  have HW1 := Aside0.mk hw1
  clear hw1
  go_loopg [3] n (fun kq v3 w2 => ∃ i : Nat, v3 = .int .i64 i ∧ Aside0 (i + kq = n ∧ i + pre T (L.drop i) = pre T L) ∧ Aside0 (Below w1.heap.size w1 w2))
  case atStart => exact ⟨0, rfl, ⟨by omega, by rw [Nat.zero_add]; rfl⟩, ⟨Below.refl _ _⟩⟩
  case round =>
    obtain ⟨i, rfl, HI, HW⟩ := hrel
    have HD : Aside0 (DA wr r T A n c L) := ⟨by
      have h1 := H.out.set0 T
      rw [← HW1.out] at h1
      exact h1.grow HW.out⟩
    have c0 := HD.out.c0
    have c1 := HD.out.c1
    have HC := H.out.nc
    have endP : Aside0 (pre T (L.drop i) = 0 → i = pre T L) := ⟨by have := HI.out.2; omega⟩
    have HQ0 : Aside0 (∀ w3, Below wr.heap.size wr w3 → SkipQ w r time A n c L T (w3.setCell ⟨r, 1, none⟩ (.slice (if c = pre T L then A else A.map (·.add (pre T L * 2))) (n - pre T L) (c - pre T L)))) := ⟨fun w3 hb => tick_end H.out (by rw [← HW1.out]; exact below_trans HW.out (below_lower hb HW.out.size))⟩
    by_cases hi : i < n
    case neg =>
      have hib : decide (i < n) = false := decide_eq_false hi
      have HE : Aside0 (i = pre T L) := ⟨endP.out (by rw [List.drop_of_length_le (by rw [← H.out.nn]; omega)]; rfl)⟩
      have hin : i ≤ n := by have := HI.out.1; omega
      have hini : (i : Int) ≤ (n : Int) := by omega
      have hin0 : (0 : Int) ≤ (i : Int) := by omega
      have hic : i ≤ c := by omega
      have fq : ∀ m, (wr.drewN m).frozen? ⟨r, 1, none⟩ = false := fun m => blk_frozen (blk_drewN HD.out.hb m) 1
      clear hi
      go_wp2
      go_quiet (fail)
      all_goals
        go_wp2
        all_goals
          go_ret
          refine ⟨by rw [HE.out]; rfl, ?_⟩
          have q := HQ0.out _ (pw_below_drewN (Below.refl _ _) nq)
          rw [← HE.out] at q
          first
            | (rw [if_neg (by assumption)] at q; exact q)
            | (have hc : c = i := by assumption
               rw [if_pos hc] at q
               subst hc
               rw [Nat.sub_self] at q
               exact q)
    have hib : decide (i < n) = true := decide_eq_true hi
    obtain ⟨ad, t, hA, ht, d0, d1⟩ := HD.out.at i hi
    have HN := Aside0.mk (pre_at ht T)
    have HIL := Aside0.mk hi
    have hw1 : Aside0 (wrap64 ((i : Int) + 1) = ((i + 1 : Nat) : Int)) := ⟨by have := HL.out; rw [wrap64_is (by omega) (by omega)]; omega⟩
    have hir : (0 : Int) ≤ (i : Int) := by omega
    have hil : (i : Int) < (n : Int) := by omega
    have hge : time < t.2 := HT.out.2 t (List.mem_of_getElem? ht)
    by_cases hk : t.2 = T
    · have hkb : (t.2 == T) = true := beq_iff_eq.2 hk
      have HR : Aside0 (i + 1 + pre T (L.drop (i + 1)) = pre T L) := ⟨by have h1 := HN.out; rw [if_pos (by omega)] at h1; have := HI.out.2; omega⟩
      subst hA
      clear hk ht hi hge
      go_wp2
      go_quiet (fail)
      all_goals
        go_wp2
        go_roundg (gk - 1)
        case measure => have := HI.out.1; have := HIL.out; omega
        case rel => exact ⟨i + 1, by first | rw [hw1.out] | (push_cast; rfl), ⟨by have := HI.out.1; have := HIL.out; omega, HR.out⟩, ⟨pw_below_drewN HW.out _⟩⟩
    · have hkb : (t.2 == T) = false := beq_eq_false_iff_ne.2 hk
      have HE : Aside0 (i = pre T L) := ⟨endP.out (by rw [HN.out, if_neg (by have := HT.out.1; omega)])⟩
      have hin : i ≤ n := by omega
      have hini : (i : Int) ≤ (n : Int) := by omega
      have hic : i ≤ c := by omega
      have hci : ¬ c = i := by omega
      have fq : ∀ m, (wr.drewN m).frozen? ⟨r, 1, none⟩ = false := fun m => blk_frozen (blk_drewN HD.out.hb m) 1
      subst hA
      clear hk ht hi hge
      go_wp2
      go_quiet (fail)
      all_goals
        go_wp2
        all_goals
          go_ret
          refine ⟨by rw [HE.out]; rfl, ?_⟩
          have q := HQ0.out _ (pw_below_drewN (Below.refl _ _) nq)
          rw [← HE.out] at q
          rw [if_neg hci] at q
          exact q
end Go.Proofs.Ytcknocglaimcpaa.WA

/- WheelSkips: the walk. -/
import Derived.Test.YtcknocglaimcpaaWhZe
namespace Go.Proofs.Ytcknocglaimcpaa.WA
open Go.RowKit Go.Proofs.YtcknocglaimcpaaW.PrintWords Go.Proofs.YtcknocglaimcpaaW.PrintLast Go.Proofs.YtcknocglaimcpaaW.PrintMore
open Go.Proofs.Ytcknocglaimcpaa.PW Go.Proofs.Ytcknocglaimcpaa.Wh Go.Maps
set_option linter.unusedVariables false
set_option linter.unusedSimpArgs false
set_option maxHeartbeats 8000000
set_option maxRecDepth 100000
theorem skipO_add (s : St) : ∀ (m n : Nat) (s : St), skipO (m + n) s = skipO m s ++ skipO n (skipS m s)
  | 0, n, s => by rw [Nat.zero_add]; rfl
  | m + 1, n, s => by
    rw [show m + 1 + n = (m + n) + 1 by omega]
    show tickO s ++ skipO (m + n) (tickS s) = (tickO s ++ skipO m (tickS s)) ++ skipO n (skipS m (tickS s))
    rw [skipO_add s m n (tickS s), List.append_assoc]
theorem skipS_add (s : St) : ∀ (m n : Nat) (s : St), skipS (m + n) s = skipS n (skipS m s)
  | 0, n, s => by rw [Nat.zero_add]; rfl
  | m + 1, n, s => by
    rw [show m + 1 + n = (m + n) + 1 by omega]
    exact skipS_add s m n (tickS s)
theorem rel_uniq {s : St} {L L' : List Tm} (h : Rel s L) (h' : Rel s L') : L = L' := so_eq _ _ h.so h'.so (fun t => by rw [← h.fl.mem_iff, h'.fl.mem_iff])
theorem fill_rel (now : Int) : ∀ (l : List S31) (s : St) (L : List Tm), Rel s L → Rel (fill now l s L).1 (fill now l s L).2
  | [], _, _, h => h
  | t :: l, s, L, h => fill_rel now l _ _ (rel_set h t.f1 (laterT now t.f2))
/-- Two lists that are the same. -/
theorem same_rows {w : World} {fr fr' : Nat → Prop} {v v' : Value} {xs : List S38} {b b' : Nat} (h : k38.R 38 w b fr v xs) (h' : k38.R 38 w b' fr' v' xs) (hl : xs.length ≤ 1000000) :
    Calls Try.prog 17 #[v, v'] w fun e w' => e = .returned (.bool true) ∧ Below w.heap.size w w' := by
  obtain ⟨A, c, rfl, _, hC⟩ := Kd.R_reads h
  obtain ⟨A', c', rfl, _, hC'⟩ := Kd.R_reads h'
  exact same_calls2 w A A' c c' xs hC hC' hl
theorem two_of {w1 w2 w3 : World} {ca cb : Nat → Nat} {a am b bm : Nat} {s t : St} {L M : List Tm} (h : AW w1 w2 ca a am s L) (h' : AW w2 w3 cb b bm t M) : ∃ fr, SK w1 w3 fr a am b bm s t := by
  obtain ⟨p1, p2, p3, p4, p5, p6⟩ := h
  obtain ⟨q1, q2, q3, q4, q5, q6⟩ := h'
  obtain ⟨la, lam, _⟩ := p1.lt
  have hsz := q5.size
  have hbb : w2.heap.size ≤ b ∧ w2.heap.size ≤ bm := by
    obtain ⟨D, cs, q⟩ := q1
    exact ⟨q.bb, q.bmb⟩
  refine ⟨_, newCol w2 ca 202, cb, ⟨p1.stay hsz (fun g hg _ => q5.block g hg), q1.lower p5.size, ⟨L, p2, Nat.le_trans p4 (by decide), p3⟩, ⟨M, q2, Nat.le_trans q4 (by decide), q3⟩, ?_, ?_⟩, fun g => Iff.rfl⟩
  · rintro g hg ⟨m1, m2⟩
    by_cases hlt : g < w2.heap.size
    · exact mine_not (by rw [q6 g hlt]; decide) (by omega) (by omega) m2
    · exact mine_not (by rw [newCol_ge hlt]; decide) (by omega) (by omega) m1
  · exact below_trans p5 (below_lower q5 p5.size)
theorem filled2 {w : World} {now : Int} {A : Option Addr} {c : Nat} {l : List S31} (hC : Kd.C k31 w A l.length l) (h : 0 ≤ now ∧ now ≤ 1000000000) (hl : l.length ≤ 250 ∧ ∀ t ∈ l, t.f1.size ≤ 1000) {s0 : St} {L0 : List Tm} (hf : fill now l (newS now) [] = (s0, L0)) :
    Calls Try.prog 15 #[.int .i64 now, .slice A l.length c] w fun e w' => ∃ b bm col, e = .returned (.pointer (some ⟨b, 0, none⟩)) ∧ AW w w' col b bm s0 L0 := by
  have := filled_calls w now A c l hC h.1 h.2 hl.1 hl.2
  rw [hf] at this
  exact this
theorem R_val {w : World} {b : Nat} {fr : Nat → Prop} {v : Value} {xs : List Tm} (h : k38.R 38 w b fr v (xs.map ofT)) : ∃ A n c, v = .slice A n c ∧ n = xs.length := by
  obtain ⟨A, c, e⟩ := Kd.R_slice h
  exact ⟨A, _, c, e, List.length_map _⟩
theorem sk_by {w0 w : World} {fr : Nat → Prop} {a am b bm : Nat} {sa sb : St} (h : SK w0 w fr a am b bm sa sb) {g : Nat} {x y : Int} (hg : g < w0.heap.size) (hb : w0.heap[g]? = some (.cells #[.int .i64 x, .int .i64 y] 40 (0, 0))) : w.cell? ⟨g, 0, none⟩ = some (.int .i64 x) ∧ w.cell? ⟨g, 1, none⟩ = some (.int .i64 y) := by
  obtain ⟨ca, cb, h, _⟩ := h
  have hb' := (h.bl.block g hg).trans hb
  exact ⟨(blk_cell hb' 0).trans rfl, (blk_cell hb' 1).trans rfl⟩
theorem AW.bl {w0 w : World} {col : Nat → Nat} {b bm : Nat} {st : St} {L : List Tm} (h : AW w0 w col b bm st L) : Below w0.heap.size w0 w := h.2.2.2.2.1
theorem AW.rel {w0 w : World} {col : Nat → Nat} {b bm : Nat} {st : St} {L : List Tm} (h : AW w0 w col b bm st L) : Rel st L := h.2.1
theorem R_C {w : World} {b : Nat} {fr : Nat → Prop} {A : Option Addr} {n c : Nat} {xs : List S38} (h : k38.R 38 w b fr (.slice A n c) xs) : Kd.C k38 w A n xs := by
  obtain ⟨h1, _, h3⟩ := Kd.R_reads' h
  rw [h1]
  exact h3
theorem skipO_len {s : St} {L : List Tm} (h : Rel s L) (n : Nat) : (skipO n s).length ≤ L.length := by
  rw [(rel_skip n h).2.1, List.length_take]
  omega
theorem sk_app {w1 w7 w10 : World} {fr7 : Nat → Prop} {a am b bm : Nat} {sa sb : St} {v10 : Value} {xs : List S38} (h : SK w1 w7 fr7 a am b bm sa sb) (hb : Below w7.heap.size w7 w10) (hR : k38.R 38 w10 w7.heap.size (fun g => w7.heap.size ≤ g) v10 xs) :
    ∃ fr10, SK w1 w10 fr10 a am b bm sa sb ∧ Kp w7 w10 fr7 fr10 ∧ k38.R 38 w10 0 fr10 v10 xs := by
  obtain ⟨fr10, q, k, z⟩ := sk_grow h hb
  exact ⟨fr10, q, k, Kd.R_lower (Kd.R_mono hR z) (Nat.zero_le _)⟩
theorem sk_rel {w0 w : World} {fr : Nat → Prop} {a am b bm : Nat} {sa sb : St} (h : SK w0 w fr a am b bm sa sb) : ∃ L, Rel sa L ∧ Sm L := by
  obtain ⟨ca, cb, h, _⟩ := h
  exact h.ra
theorem sk_bl {w0 w : World} {fr : Nat → Prop} {a am b bm : Nat} {sa sb : St} (h : SK w0 w fr a am b bm sa sb) : Below w0.heap.size w0 w := by
  obtain ⟨ca, cb, h, _⟩ := h
  exact h.bl
theorem Sm.len {L : List Tm} (h : Sm L) : (L.map ofT).length ≤ 1000000 := by
  have := h.1
  rw [List.length_map]
  omega
theorem AW.skl {w0 w : World} {col : Nat → Nat} {b bm : Nat} {st : St} {L : List Tm} (h : AW w0 w col b bm st L) (n : Nat) : ((skipO n st).map ofT).length ≤ 1000000 := by
  have h1 := skipO_len h.rel n
  have h2 := h.sm.1
  rw [List.length_map]
  omega
theorem same_ns {w : World} {A B : Option Addr} {n c d : Nat} {xs : List S38} (h1 : Kd.C k38 w A n xs) (h2 : Kd.C k38 w B n xs) (hl : xs.length ≤ 1000000) :
    Calls Try.prog 17 #[.slice A n c, .slice B n d] w fun e w' => e = .returned (.bool true) ∧ Below w.heap.size w w' := by
  obtain rfl := h1.1
  exact same_calls2 w A B c d xs h1 h2 hl
theorem drop_C {w : World} {fr : Nat → Prop} {A : Option Addr} {n c m : Nat} {L : List Tm} (h : k38.R 38 w 0 fr (.slice A n c) (L.map ofT)) (hm : m ≤ n) : Kd.C k38 w (if c = m then A else A.map (·.add (m * 2))) (n - m) ((L.drop m).map ofT) := by
  obtain ⟨h1, h2, h3⟩ := Kd.R_reads' h
  have h := Kd.C_drop h3 (m := m) (by rw [← h1]; exact hm) (by rw [← h1]; exact h2)
  rw [List.length_drop, ← h1, ← List.map_drop] at h
  exact h
def TS : Bool × List (List Nat × List Nat) := (true, [([], []), ([0], [0]), ([], []), ([2], [2]), ([1, 3], [1, 3]), ([4], [4]), ([5], [5]), ([5], [5]), ([7, 5], [5, 7]), ([6, 8, 5], [5, 6, 8]), ([5], [5]), ([9, 10, 5, 5], [5, 9, 10]), ([5, 11], [5, 11]), ([12, 11], [12]), ([13], [13]), ([13], [13]), ([15, 13], [13, 15]), ([14, 16, 13], [13, 14, 16]), ([13], [13]), ([18, 13, 13], [13, 18]), ([17, 19, 19, 13], [13, 17, 19]), ([13, 20], [13, 20]), ([21, 20], [21]), ([22, 22], [22]), ([22, 23], [22, 23]), ([24, 23, 0, 1, 2, 3, 4, 5, 6, 7, 8, 9, 10, 11, 12, 13, 14, 15, 16, 17, 18, 19, 20, 21, 22, 23, 24], [24])])
def BS : List Nat := [0, 1, 0, 4, 15, 31, 63, 63, 191, 511, 63, 2047, 4095, 8191, 16383, 16383, 49151, 131071, 16383, 278527, 1048575, 2097151, 4194303, 8388607, 16777215, 33554431]
theorem tabS : rtab .any (opsOf Try.f4 13) = TS := by kernel_rfl
theorem bitsS : waitsOk TS.2 BS = true := by kernel_rfl
/-- What WheelSkips asks of the lists. -/
theorem skips_law {s : St} {L M : List Tm} (hr : Rel s L) (m n : Nat) (hM : Rel (skipS n (skipS m s)) M) : skipO (m + n) s = L.take (skipO (m + n) s).length ∧ M = L.drop (skipO (m + n) s).length ∧ (skipO (m + n) s).length ≤ L.length := by
  obtain ⟨r1, r2, r3⟩ := rel_skip (m + n) hr
  rw [skipS_add s] at r1
  have e := rel_uniq hM r1
  have h1 := pre_le (min (s.now + ((m + n : Nat) : Int)) far) L
  generalize pre (min (s.now + ((m + n : Nat) : Int)) far) L = k at r1 r2 e h1
  have hl : (skipO (m + n) s).length = k := by rw [r2, List.length_take]; omega
  rw [hl]
  exact ⟨r2, e, h1⟩

theorem skips_calls (w : World) (now : Int) (A : Option Addr) (c : Nat) (l : List S31) (by0 by1 : Int) (hC : Kd.C k31 w A l.length l) :
    Calls Try.prog 4 #[.int .i64 now, .slice A l.length c, .agg #[.int .i64 by0, .int .i64 by1]] w fun e w' => e = .returned (.bool true) ∧ Below w.heap.size w w' := by
  have HC := Aside0.mk hC
  obtain ⟨w1, hw1⟩ : ∃ w1, w1 = w.alloc (.cells #[.int .i64 by0, .int .i64 by1] 40) := ⟨_, rfl⟩
  have HB1 : Aside0 (Below w.heap.size w w1) := ⟨by rw [hw1]; exact below_alloc (Below.refl _ _) _⟩
  have hblk : w1.heap[w.heap.size]? = some (.cells #[.int .i64 by0, .int .i64 by1] 40 (0, 0)) := by rw [hw1]; exact blk_new _ _
  have HBK := Aside0.mk hblk
  have HGL : Aside0 (w.heap.size < w1.heap.size) := ⟨by rw [hw1]; simp⟩
  have d0 : w1.cell? ⟨w.heap.size, 0, none⟩ = some (.int .i64 by0) := (blk_cell hblk 0).trans rfl
  have d1 : w1.cell? ⟨w.heap.size, 1, none⟩ = some (.int .i64 by1) := (blk_cell hblk 1).trans rfl
  have hfew := few_calls w1 A c l (Kd.C_below hC HB1.out)
  have haw := awake_calls w1
  have hC1 := Kd.C_below hC HB1.out
  have HC1 := Aside0.mk hC1
  clear hC hC1 hblk
  generalize hg0 : w.heap.size = g0 at d0 d1 HBK HGL HB1 ⊢
  obtain ⟨b1, h1⟩ : ∃ b, decide (now < 0) = b := ⟨_, rfl⟩
  obtain ⟨b2, h2⟩ : ∃ b, decide (999000000 < now) = b := ⟨_, rfl⟩
  obtain ⟨b3, h3⟩ : ∃ b, decide (100 < l.length) = b := ⟨_, rfl⟩
  have h3i : decide ((100 : Int) < (l.length : Int)) = b3 := by rw [← h3]; exact decide_eq_decide.2 (by omega)
  obtain ⟨b4, h4⟩ : ∃ b, fewB l = b := ⟨_, rfl⟩
  rw [h4] at hfew
  obtain ⟨b5, h5⟩ : ∃ b, decide (by0 < 0) = b := ⟨_, rfl⟩
  obtain ⟨b6, h6⟩ : ∃ b, decide (by1 < 0) = b := ⟨_, rfl⟩
  obtain ⟨b7, h7⟩ : ∃ b, decide (40000 < by0) = b := ⟨_, rfl⟩
  obtain ⟨b8, h8⟩ : ∃ b, decide (40000 < by1) = b := ⟨_, rfl⟩
  subst hw1
  cases b1 with
  | true =>
    go_enter Try.func4, Try.ntmps4
    go_wp2_with (first | (go_at_call 14; with_reducible refine hfew.mono ?_; rintro e w' ⟨rfl, rfl⟩) | (go_at_call 7; with_reducible refine haw.mono ?_; rintro e w' ⟨rfl, hb⟩; have HB2 := Aside0.mk hb; clear hb))
    all_goals
      go_ret
      exact ⟨rfl, below_trans HB1.out (below_lower HB2.out (Nat.le_of_lt HGL.out))⟩
  | false =>
    cases b2 with
    | true =>
      go_enter Try.func4, Try.ntmps4
      go_wp2_with (first | (go_at_call 14; with_reducible refine hfew.mono ?_; rintro e w' ⟨rfl, rfl⟩) | (go_at_call 7; with_reducible refine haw.mono ?_; rintro e w' ⟨rfl, hb⟩; have HB2 := Aside0.mk hb; clear hb))
      all_goals
        go_ret
        exact ⟨rfl, below_trans HB1.out (below_lower HB2.out (Nat.le_of_lt HGL.out))⟩
    | false =>
      cases b3 with
      | true =>
        go_enter Try.func4, Try.ntmps4
        go_wp2_with (first | (go_at_call 14; with_reducible refine hfew.mono ?_; rintro e w' ⟨rfl, rfl⟩) | (go_at_call 7; with_reducible refine haw.mono ?_; rintro e w' ⟨rfl, hb⟩; have HB2 := Aside0.mk hb; clear hb))
        all_goals
          go_ret
          exact ⟨rfl, below_trans HB1.out (below_lower HB2.out (Nat.le_of_lt HGL.out))⟩
      | false =>
        cases b4 with
        | false =>
          go_enter Try.func4, Try.ntmps4
          go_wp2_with (first | (go_at_call 14; with_reducible refine hfew.mono ?_; rintro e w' ⟨rfl, rfl⟩) | (go_at_call 7; with_reducible refine haw.mono ?_; rintro e w' ⟨rfl, hb⟩; have HB2 := Aside0.mk hb; clear hb))
          all_goals
            go_ret
            exact ⟨rfl, below_trans HB1.out (below_lower HB2.out (Nat.le_of_lt HGL.out))⟩
        | true =>
          cases b5 with
          | true =>
            go_enter Try.func4, Try.ntmps4
            go_wp2_with (first | (go_at_call 14; with_reducible refine hfew.mono ?_; rintro e w' ⟨rfl, rfl⟩) | (go_at_call 7; with_reducible refine haw.mono ?_; rintro e w' ⟨rfl, hb⟩; have HB2 := Aside0.mk hb; clear hb))
            all_goals
              go_ret
              exact ⟨rfl, below_trans HB1.out (below_lower HB2.out (Nat.le_of_lt HGL.out))⟩
          | false =>
            cases b6 with
            | true =>
              go_enter Try.func4, Try.ntmps4
              go_wp2_with (first | (go_at_call 14; with_reducible refine hfew.mono ?_; rintro e w' ⟨rfl, rfl⟩) | (go_at_call 7; with_reducible refine haw.mono ?_; rintro e w' ⟨rfl, hb⟩; have HB2 := Aside0.mk hb; clear hb))
              all_goals
                go_ret
                exact ⟨rfl, below_trans HB1.out (below_lower HB2.out (Nat.le_of_lt HGL.out))⟩
            | false =>
              cases b7 with
              | true =>
                go_enter Try.func4, Try.ntmps4
                go_wp2_with (first | (go_at_call 14; with_reducible refine hfew.mono ?_; rintro e w' ⟨rfl, rfl⟩) | (go_at_call 7; with_reducible refine haw.mono ?_; rintro e w' ⟨rfl, hb⟩; have HB2 := Aside0.mk hb; clear hb))
                all_goals
                  go_ret
                  exact ⟨rfl, below_trans HB1.out (below_lower HB2.out (Nat.le_of_lt HGL.out))⟩
              | false =>
                cases b8 with
                | true =>
                  go_enter Try.func4, Try.ntmps4
                  go_wp2_with (first | (go_at_call 14; with_reducible refine hfew.mono ?_; rintro e w' ⟨rfl, rfl⟩) | (go_at_call 7; with_reducible refine haw.mono ?_; rintro e w' ⟨rfl, hb⟩; have HB2 := Aside0.mk hb; clear hb))
                  all_goals
                    go_ret
                    exact ⟨rfl, below_trans HB1.out (below_lower HB2.out (Nat.le_of_lt HGL.out))⟩
                | false =>
                  obtain ⟨m, rfl⟩ : ∃ m : Nat, by0 = (m : Int) := Int.eq_ofNat_of_zero_le (by have := of_decide_eq_false h5; omega)
                  obtain ⟨n, rfl⟩ : ∃ n : Nat, by1 = (n : Int) := Int.eq_ofNat_of_zero_le (by have := of_decide_eq_false h6; omega)
                  have HMN : Aside0 (m ≤ 40000 ∧ n ≤ 40000) := ⟨by have := of_decide_eq_false h7; have := of_decide_eq_false h8; omega⟩
                  have h7n : decide (40000 < m) = false := decide_eq_false (by have := HMN.out; omega)
                  have h8n : decide (40000 < n) = false := decide_eq_false (by have := HMN.out; omega)
                  have HNOW : Aside0 (0 ≤ now ∧ now ≤ 1000000000) := ⟨by have := of_decide_eq_false h1; have := of_decide_eq_false h2; omega⟩
                  have hadd : wrap64 ((m : Int) + (n : Int)) = ((m + n : Nat) : Int) := by have := HMN.out; rw [wrap64_is (by omega) (by omega)]; omega
                  obtain ⟨s0, L0, hfl⟩ : ∃ s0 L0, fill now l (newS now) [] = (s0, L0) := ⟨_, _, rfl⟩
                  have HFL := Aside0.mk hfl
                  clear hfl
                  have HK := Aside0.mk (fewB_true h4)
                  obtain ⟨mn, hmn⟩ : ∃ mn, mn = m + n := ⟨_, rfl⟩
                  rw [← hmn] at hadd
                  have HAD := Aside0.mk hmn
                  clear hmn
                  have HSB : Aside0 (skipS mn s0 = skipS n (skipS m s0)) := ⟨by rw [HAD.out]; exact skipS_add s0 m n s0⟩
                  go_enter Try.func4, Try.ntmps4
                  go_wp2_with (first
                    | (go_at_call 14; with_reducible refine hfew.mono ?_; rintro e w' ⟨rfl, rfl⟩)
                    | (go_at_call 7; with_reducible refine haw.mono ?_; rintro e w' ⟨rfl, hb⟩; have HB2 := Aside0.mk hb; clear hb)
                    | (go_at_call 15; with_reducible refine (filled2 HC1.out HNOW.out HK.out HFL.out).mono ?_; rintro e w2 ⟨a, am, ca, rfl, q2⟩; have K2 := Aside0.mk q2; clear q2)
                    | (go_at_call 15; (with_reducible refine (filled2 (Kd.C_below HC1.out K2.out.bl) HNOW.out HK.out HFL.out).mono ?_; rintro e w3 ⟨b, bm, cb, rfl, q3⟩; obtain ⟨fr3, q3⟩ := two_of K2.out q3; have K3 := Aside0.mk q3; clear q3))
                    | (go_at_call 13; with_reducible refine (sk_all K3.out K2.out.rel K2.out.sm).mono ?_; rintro e w4 ⟨v4, fr4, rfl, q4, k4, r4⟩; obtain ⟨A4, n4, c4, rfl, e4⟩ := R_val r4; obtain ⟨x0, x1⟩ := sk_by q4 HGL.out HBK.out; have K4 := Aside0.mk (And.intro q4 (And.intro r4 e4)); clear q4 k4 r4 e4)
                    | (go_at_call 16; with_reducible refine (sk_skip K4.out.1 m (by have := HMN.out; omega)).mono ?_; rintro e w5 ⟨v5, fr5, rfl, q5, k5, r5⟩; obtain ⟨A5, n5, c5, rfl, e5⟩ := R_val r5; obtain ⟨y0, y1⟩ := sk_by q5 HGL.out HBK.out; have K5 := Aside0.mk (And.intro q5 (And.intro (k5.row K4.out.2.1) (And.intro r5 e5))); clear q5 k5 r5 e5)
                    | (go_at_call 16; with_reducible refine (sk_skip K5.out.1 n (by have := HMN.out; omega)).mono ?_; rintro e w6 ⟨v6, fr6, rfl, q6, k6, r6⟩; obtain ⟨A6, n6, c6, rfl, e6⟩ := R_val r6; obtain ⟨z0, z1⟩ := sk_by q6 HGL.out HBK.out; have K6 := Aside0.mk (And.intro q6 (And.intro (k6.row K5.out.2.1) (And.intro (k6.row K5.out.2.2.1) (And.intro r6 e6)))); clear q6 k6 r6 e6)
                    | (go_at_call 16; with_reducible refine (sk_skip K6.out.1.swap mn (by have := HMN.out; have := HAD.out; omega)).mono ?_; rintro e w7 ⟨v7, fr7, rfl, q7, k7, r7⟩; obtain ⟨A7, n7, c7, rfl, e7⟩ := R_val r7; have K7 := Aside0.mk (And.intro q7.swap (And.intro (k7.row K6.out.2.1) (And.intro (k7.row K6.out.2.2.1) (And.intro (k7.row K6.out.2.2.2.1) (And.intro r7 e7))))); clear q7 k7 r7 e7)
                    | ((with_reducible refine gate_dst (N := 92) rfl ?_); refine Kd.R_lit k38 w7.heap.size 38 ?hg (N := 92) ?hd (w0 := w7) (xs := ([] : List S38)) (inner := []) (ok := fun g => w7.heap.size ≤ g) (okp := fun _ => False) ?hr ?hp (fun _ hk => hk.elim) (Nat.le_refl _) (Below.refl _ _) (Nat.le_refl _) (by simp) ?_; (case hd => rfl); (case hg => rfl); (case hr => first | (go_simp; done) | (go_simp; rfl)); (case hp => exact Reps.none _ _); intro v8 w8 ho8 hb8 hg8 hn8; have K8 := Aside0.mk (And.intro ho8 hb8); clear ho8 hb8 hg8 hn8)
                    | ((with_reducible refine gate_builtin (b := .append) (xs := #[.tmp 92, .tmp 93]) rfl ?_); at_builtin; refine Kd.R_append_rows k38 (Rr := k38.K w8) (w0 := w7) w7.heap.size rfl (.tmp 92) (.tmp 93) 35 38 (.agg #[.string ⟨#[]⟩, .int .i64 0]) 24 rfl Try.underlying35 info38 rfl (by decide) (by omega) v8 [] ((skipO m s0).map ofT) A5 n5 c5 (fun g => w7.heap.size ≤ g) (fun _ => False) rfl rfl K8.out.1 ?aR (fun x cs h => by rw [k38_open h]; exact k38_mkM _ _ _ _) (fun _ hk => hk.elim) (fun g hg => Nat.le_trans K8.out.2.size hg) K8.out.2 K8.out.2.size ?aL ?_; (case aR => exact Kd.C_below (R_C K7.out.2.2.1) K8.out.2); (case aL => have h1 := skipO_len K2.out.rel m; have h2 := K2.out.sm.1; have h3 := K5.out.2.2.2; rw [List.length_nil]; omega); intro v9 w9 ho9 hb9 hg9 hat9; have K9 := Aside0.mk (And.intro ho9 hb9); clear ho9 hb9 hg9 hat9)
                    | ((with_reducible refine gate_builtin (b := .append) (xs := #[.tmp 94, .tmp 95]) rfl ?_); at_builtin; refine Kd.R_append_rows k38 (Rr := k38.K w9) (w0 := w7) w7.heap.size rfl (.tmp 94) (.tmp 95) 35 38 (.agg #[.string ⟨#[]⟩, .int .i64 0]) 24 rfl Try.underlying35 info38 rfl (by decide) (by omega) v9 ([] ++ (skipO m s0).map ofT) ((skipO n (skipS m s0)).map ofT) A6 n6 c6 (fun g => w7.heap.size ≤ g) (fun _ => False) rfl rfl K9.out.1 ?aR (fun x cs h => by rw [k38_open h]; exact k38_mkM _ _ _ _) (fun _ hk => hk.elim) (fun g hg => Nat.le_trans K9.out.2.size hg) K9.out.2 K9.out.2.size ?aL ?_; (case aR => exact Kd.C_below (R_C K7.out.2.2.2.1) K9.out.2); (case aL => have h1 := skipO_len K2.out.rel (m + n); have h2 := K2.out.sm.1; have h3 := K6.out.2.2.2.2; have h4 := congrArg List.length (skipO_add s0 m n s0); rw [List.length_append] at h4; rw [List.nil_append, List.length_map]; omega); intro v10 w10 ho10 hb10 hg10 hat10; have hl10 : ([] ++ (skipO m s0).map ofT) ++ (skipO n (skipS m s0)).map ofT = (skipO mn s0).map ofT := (by rw [HAD.out, skipO_add s0, List.map_append, List.nil_append]); rw [hl10] at ho10; obtain ⟨fr10, q10, k10, r10⟩ := sk_app K7.out.1 hb10 ho10; obtain ⟨A10, n10, c10, rfl, e10⟩ := R_val r10; have K10 := Aside0.mk (And.intro q10 (And.intro (k10.row K7.out.2.1) (And.intro (k10.row K7.out.2.2.2.2.1) (And.intro r10 e10)))); clear ho10 hb10 hg10 hat10 hl10 q10 k10 r10 e10)
                    | (go_at_call 17; with_reducible refine (same_rows K10.out.2.2.2.1 K10.out.2.2.1 (K2.out.skl mn)).mono ?_; rintro e w11 ⟨rfl, hb11⟩; obtain ⟨fr11, q11, k11, _⟩ := sk_grow K10.out.1 hb11; obtain ⟨M, hM, hMs⟩ := sk_rel q11; have K11 := Aside0.mk (And.intro q11 (And.intro (k11.row K10.out.2.1) (And.intro (k11.row K10.out.2.2.2.1) (And.intro hM hMs)))); clear hb11 q11 k11 hM hMs)
                    | (go_at_call 13; with_reducible refine (sk_all K11.out.1 K11.out.2.2.2.1 K11.out.2.2.2.2).mono ?_; rintro e w12 ⟨v12, fr12, rfl, q12, k12, r12⟩; have K12 := Aside0.mk (And.intro q12 (And.intro (k12.row K11.out.2.1) (And.intro (k12.row K11.out.2.2.1) r12))); clear q12 k12 r12)
                    | (go_at_call 13; with_reducible refine (sk_all K12.out.1.swap (HSB.out.symm ▸ K11.out.2.2.2.1) K11.out.2.2.2.2).mono ?_; rintro e w13 ⟨v13, fr13, rfl, q13, k13, r13⟩; have K13 := Aside0.mk (And.intro q13.swap (And.intro (k13.row K12.out.2.1) (And.intro (k13.row K12.out.2.2.1) (And.intro (k13.row K12.out.2.2.2) r13)))); clear q13 k13 r13)
                    | (go_at_call 17; with_reducible refine (same_rows K13.out.2.2.2.1 K13.out.2.2.2.2 K11.out.2.2.2.2.len).mono ?_; rintro e w14 ⟨rfl, hb14⟩; obtain ⟨fr14, q14, k14, _⟩ := sk_grow K13.out.1 hb14; have N1 := Aside0.mk (sk_now q14); have N2 := Aside0.mk (sk_now q14.swap); have K14 := Aside0.mk (And.intro q14 (And.intro (k14.row K13.out.2.1) (k14.row K13.out.2.2.1))); clear hb14 q14 k14)
                    | (go_at_call 11; with_reducible refine N1.out.mono ?_; rintro e w15 ⟨rfl, rfl⟩)
                    | (go_at_call 11; with_reducible refine N2.out.mono ?_; rintro e w15 ⟨rfl, rfl⟩; rw [HSB.out]))
                  obtain ⟨l1, l2, l3⟩ := skips_law K2.out.rel m n K11.out.2.2.2.1
                  rw [← HAD.out] at l1 l2 l3
                  have e4 := K4.out.2.2
                  have e10 := K10.out.2.2.2.2
                  rw [← e10] at l1 l2 l3
                  rw [← e4] at l3
                  have hc4 : n4 ≤ c4 := (Kd.R_reads' K14.out.2.1).2.1
                  have hle : decide (n10 ≤ n4) = true := decide_eq_true l3
                  have hle2 : decide ((n10 : Int) ≤ (n4 : Int)) = true := decide_eq_true (by omega)
                  have HCA : Aside0 (Kd.C k38 w15 A4 n10 ((skipO mn s0).map ofT) ∧ Kd.C k38 w15 A10 n10 ((skipO mn s0).map ofT)) := ⟨by
                    refine ⟨?_, R_C K14.out.2.2⟩
                    obtain ⟨h1, _, h3⟩ := Kd.R_reads' K14.out.2.1
                    have h := Kd.C_take h3 (m := n10) (by rw [← h1]; exact l3)
                    rw [← List.map_take, ← l1, List.length_map, ← e10] at h
                    exact h⟩
                  have HM2 : Aside0 (M = L0.drop n10) := ⟨l2⟩
                  have HLE := Aside0.mk (And.intro l3 hc4)
                  have h410 : n10 ≤ c4 := Nat.le_trans l3 hc4
                  clear l1 l2 e4 e10
                  have hsame1 : Calls Try.prog 17 #[.slice A4 n10 c4, .slice A10 n10 c10] w15.drew fun e w' => e = .returned (.bool true) ∧ Below w15.heap.size w15 w' := (same_ns (w := w15.drewN 1) (Kd.C_drewN HCA.out.1 1) (Kd.C_drewN HCA.out.2 1) (K2.out.skl mn)).mono fun e w' ⟨h1, h2⟩ => ⟨h1, below_trans (pw_below_drewN (Below.refl _ _) 1) h2⟩
                  refine start_ (n := 26) (S := fun _ => True) (ds := []) #[false, false, false, false, false, false, false, false, false, false, false, false, false, false, false, false, false, false, false, false, false, false, false, false, false, false] (by kernel_rfl) rfl rfl trivial (fun hHeld => ?_); refine with_tabW tabS bitsS (fun HT_ HW_ => ?_)
                  refine pure_ (i := 0) (N := some 128) (v := ?_) (a' := ?_) #[true, false, false, false, false, false, false, false, false, false, false, false, false, false, false, false, false, false, false, false, false, false, false, false, false, false] rfl rfl (any_of HT_.out (by kernel_rfl)) (fun _ _ _ h => h) (Or.inl ⟨by rfl, ?_⟩) ?_ ?_
                  rotate_left
                  · intro w'
                    go_simp
                    first | done | with_reducible rfl
                  rotate_left
                  · simp only [Act.put, List.setIfInBounds_toArray, List.set_cons_zero, List.set_cons_succ, i64_w, i32_w]
                    rfl
                  refine pure_ (i := 1) (N := some 129) (v := ?_) (a' := ?_) #[true, true, false, false, false, false, false, false, false, false, false, false, false, false, false, false, false, false, false, false, false, false, false, false, false, false] rfl rfl (any_of HT_.out (by kernel_rfl)) (fun _ _ _ h => h) (Or.inl ⟨by rfl, ?_⟩) ?_ ?_
                  rotate_left
                  · intro w'
                    go_simp
                    first | done | with_reducible rfl
                  rotate_left
                  · simp only [Act.put, List.setIfInBounds_toArray, List.set_cons_zero, List.set_cons_succ, i64_w, i32_w]
                    rfl
                  refine pure_ (i := 2) (N := some 130) (v := ?_) (a' := ?_) #[true, true, true, false, false, false, false, false, false, false, false, false, false, false, false, false, false, false, false, false, false, false, false, false, false, false] rfl rfl (any_of HT_.out (by kernel_rfl)) (fun _ _ _ h => h) (Or.inl ⟨by rfl, ?_⟩) ?_ ?_
                  rotate_left
                  · intro w'
                    go_simp
                    first | done | with_reducible rfl
                  rotate_left
                  · simp only [Act.put, List.setIfInBounds_toArray, List.set_cons_zero, List.set_cons_succ, i64_w, i32_w]
                    rfl
                  refine pure_ (i := 3) (N := some 131) (v := ?_) (a' := ?_) #[true, true, true, true, false, false, false, false, false, false, false, false, false, false, false, false, false, false, false, false, false, false, false, false, false, false] rfl rfl (any_of HT_.out (by kernel_rfl)) (fun _ _ _ h => h) (Or.inl ⟨by rfl, ?_⟩) ?_ ?_
                  rotate_left
                  · intro w'
                    go_simp
                    first | done | with_reducible rfl
                  rotate_left
                  · simp only [Act.put, List.setIfInBounds_toArray, List.set_cons_zero, List.set_cons_succ, i64_w, i32_w]
                    rfl
                  refine pure_ (i := 4) (N := some 132) (v := ?_) (a' := ?_) #[true, true, true, true, true, false, false, false, false, false, false, false, false, false, false, false, false, false, false, false, false, false, false, false, false, false] rfl rfl (any_of HT_.out (by kernel_rfl)) (fun _ _ _ h => h) (Or.inl ⟨by rfl, ?_⟩) ?_ ?_
                  rotate_left
                  · intro w'
                    go_simp
                    first | done | with_reducible rfl
                  rotate_left
                  · simp only [Act.put, List.setIfInBounds_toArray, List.set_cons_zero, List.set_cons_succ, i64_w, i32_w]
                    rfl
                  refine pure_ (i := 5) (N := some 133) (v := ?_) (a' := ?_) #[true, true, true, true, true, true, false, false, false, false, false, false, false, false, false, false, false, false, false, false, false, false, false, false, false, false] rfl rfl (any_of HT_.out (by kernel_rfl)) (fun _ _ _ h => h) (Or.inl ⟨by rfl, ?_⟩) ?_ ?_
                  rotate_left
                  · intro w'
                    go_simp
                    first | done | with_reducible rfl
                  rotate_left
                  · simp only [Act.put, List.setIfInBounds_toArray, List.set_cons_zero, List.set_cons_succ, i64_w, i32_w]
                    rfl
                  refine pure_ (i := 6) (N := some 134) (v := ?_) (a' := ?_) #[true, true, true, true, true, true, true, false, false, false, false, false, false, false, false, false, false, false, false, false, false, false, false, false, false, false] rfl rfl (any_of HT_.out (by kernel_rfl)) (fun _ _ _ h => h) (Or.inl ⟨by rfl, ?_⟩) ?_ ?_
                  rotate_left
                  · intro w'
                    go_simp
                    first | done | with_reducible rfl
                  rotate_left
                  · simp only [Act.put, List.setIfInBounds_toArray, List.set_cons_zero, List.set_cons_succ, i64_w, i32_w]
                    rfl
                  refine pure_ (i := 7) (N := some 135) (v := ?_) (a' := ?_) #[true, true, true, true, true, true, true, true, false, false, false, false, false, false, false, false, false, false, false, false, false, false, false, false, false, false] rfl rfl (any_of HT_.out (by kernel_rfl)) (fun _ _ _ h => h) (Or.inl ⟨by rfl, ?_⟩) ?_ ?_
                  rotate_left
                  · intro w'
                    go_simp
                    first | done | with_reducible rfl
                  rotate_left
                  · simp only [Act.put, List.setIfInBounds_toArray, List.set_cons_zero, List.set_cons_succ, i64_w, i32_w]
                    rfl
                  refine pure_ (i := 8) (N := some 136) (v := ?_) (a' := ?_) #[true, true, true, true, true, true, true, true, true, false, false, false, false, false, false, false, false, false, false, false, false, false, false, false, false, false] rfl rfl (any_of HT_.out (by kernel_rfl)) (fun _ _ _ h => h) (Or.inl ⟨by rfl, ?_⟩) ?_ ?_
                  rotate_left
                  · intro w'
                    go_simp
                    first | done | with_reducible rfl
                  rotate_left
                  · simp only [Act.put, List.setIfInBounds_toArray, List.set_cons_zero, List.set_cons_succ, i64_w, i32_w]
                    rfl
                  refine pure_ (i := 9) (N := some 137) (v := ?_) (a' := ?_) #[true, true, true, true, true, true, true, true, true, true, false, false, false, false, false, false, false, false, false, false, false, false, false, false, false, false] rfl rfl (any_of HT_.out (by kernel_rfl)) (fun _ _ _ h => h) (Or.inl ⟨by rfl, ?_⟩) ?_ ?_
                  rotate_left
                  · intro w'
                    go_simp
                    first | done | with_reducible rfl
                  rotate_left
                  · simp only [Act.put, List.setIfInBounds_toArray, List.set_cons_zero, List.set_cons_succ, i64_w, i32_w]
                    rfl
                  refine pure_ (i := 10) (N := some 138) (v := ?_) (a' := ?_) #[true, true, true, true, true, true, true, true, true, true, true, false, false, false, false, false, false, false, false, false, false, false, false, false, false, false] rfl rfl (any_of HT_.out (by kernel_rfl)) (fun _ _ _ h => h) (Or.inl ⟨by rfl, ?_⟩) ?_ ?_
                  rotate_left
                  · intro w'
                    go_simp
                    first | done | with_reducible rfl
                  rotate_left
                  · simp only [Act.put, List.setIfInBounds_toArray, List.set_cons_zero, List.set_cons_succ, i64_w, i32_w]
                    rfl
                  refine one_ (i := 11) (N := some 139) #[true, true, true, true, true, true, true, true, true, true, true, true, false, false, false, false, false, false, false, false, false, false, false, false, false, false] rfl rfl (one_of HT_.out (by kernel_rfl)) (by decide) (fun K hK => ?_)
                  refine goes_ Try.func17 (by kernel_rfl) rfl #[.slice A4 n10 c4, .slice A10 n10 c10] (by rfl) rfl rfl (by (try simp only [List.map_toArray, List.map_cons, List.map_nil]); first | done | rfl | (simp only [List.length_drop, List.length_take]; rfl)) ?_
                  with_reducible refine (hsame1).mono ?_
                  rintro e w16 ⟨rfl, hb16⟩; obtain ⟨fr16, q16, k16, _⟩ := sk_grow K14.out.1 hb16; have K16 := Aside0.mk (And.intro q16 (k16.row K14.out.2.1)); clear hb16 q16 k16
                  refine ⟨_, rfl, ?_⟩
                  refine hK.out _ _ trivial (fun hHeld => ?_)
                  clear hK K
                  refine norm_ (a' := ?_) ?_ ?_
                  rotate_left
                  · show Act.put _ (some 139) _ = _
                    simp only [Act.put, List.setIfInBounds_toArray, List.set_cons_zero, List.set_cons_succ, i64_w, i32_w]
                    rfl
                  refine pure_ (i := 12) (N := some 140) (v := ?_) (a' := ?_) #[true, true, true, true, true, true, true, true, true, true, true, true, true, false, false, false, false, false, false, false, false, false, false, false, false, false] rfl rfl (any_of HT_.out (by kernel_rfl)) (fun _ _ _ h => h) (Or.inl ⟨by rfl, ?_⟩) ?_ ?_
                  rotate_left
                  · intro w'
                    go_simp
                    first | done | with_reducible rfl
                  rotate_left
                  · simp only [Act.put, List.setIfInBounds_toArray, List.set_cons_zero, List.set_cons_succ, i64_w, i32_w]
                    rfl
                  refine pure_ (i := 13) (N := some 141) (v := ?_) (a' := ?_) #[true, true, true, true, true, true, true, true, true, true, true, true, true, true, false, false, false, false, false, false, false, false, false, false, false, false] rfl rfl (any_of HT_.out (by kernel_rfl)) (fun _ _ _ h => h) (Or.inl ⟨by rfl, ?_⟩) ?_ ?_
                  rotate_left
                  · intro w'
                    go_simp
                    first | done | with_reducible rfl
                  rotate_left
                  · simp only [Act.put, List.setIfInBounds_toArray, List.set_cons_zero, List.set_cons_succ, i64_w, i32_w]
                    rfl
                  refine pure_ (i := 14) (N := some 142) (v := ?_) (a' := ?_) #[true, true, true, true, true, true, true, true, true, true, true, true, true, true, true, false, false, false, false, false, false, false, false, false, false, false] rfl rfl (any_of HT_.out (by kernel_rfl)) (fun _ _ _ h => h) (Or.inl ⟨by rfl, ?_⟩) ?_ ?_
                  rotate_left
                  · intro w'
                    go_simp
                    first | done | with_reducible rfl
                  rotate_left
                  · simp only [Act.put, List.setIfInBounds_toArray, List.set_cons_zero, List.set_cons_succ, i64_w, i32_w]
                    rfl
                  refine pure_ (i := 15) (N := some 143) (v := ?_) (a' := ?_) #[true, true, true, true, true, true, true, true, true, true, true, true, true, true, true, true, false, false, false, false, false, false, false, false, false, false] rfl rfl (any_of HT_.out (by kernel_rfl)) (fun _ _ _ h => h) (Or.inl ⟨by rfl, ?_⟩) ?_ ?_
                  rotate_left
                  · intro w'
                    go_simp
                    first | done | with_reducible rfl
                  rotate_left
                  · simp only [Act.put, List.setIfInBounds_toArray, List.set_cons_zero, List.set_cons_succ, i64_w, i32_w]
                    rfl
                  refine pure_ (i := 16) (N := some 144) (v := ?_) (a' := ?_) #[true, true, true, true, true, true, true, true, true, true, true, true, true, true, true, true, true, false, false, false, false, false, false, false, false, false] rfl rfl (any_of HT_.out (by kernel_rfl)) (fun _ _ _ h => h) (Or.inl ⟨by rfl, ?_⟩) ?_ ?_
                  rotate_left
                  · intro w'
                    go_simp
                    first | done | with_reducible rfl
                  rotate_left
                  · simp only [Act.put, List.setIfInBounds_toArray, List.set_cons_zero, List.set_cons_succ, i64_w, i32_w]
                    rfl
                  refine pure_ (i := 17) (N := some 145) (v := ?_) (a' := ?_) #[true, true, true, true, true, true, true, true, true, true, true, true, true, true, true, true, true, true, false, false, false, false, false, false, false, false] rfl rfl (any_of HT_.out (by kernel_rfl)) (fun _ _ _ h => h) (Or.inl ⟨by rfl, ?_⟩) ?_ ?_
                  rotate_left
                  · intro w'
                    go_simp
                    first | done | with_reducible rfl
                  rotate_left
                  · simp only [Act.put, List.setIfInBounds_toArray, List.set_cons_zero, List.set_cons_succ, i64_w, i32_w]
                    rfl
                  refine pure_ (i := 18) (N := some 146) (v := ?_) (a' := ?_) #[true, true, true, true, true, true, true, true, true, true, true, true, true, true, true, true, true, true, true, false, false, false, false, false, false, false] rfl rfl (any_of HT_.out (by kernel_rfl)) (fun _ _ _ h => h) (Or.inl ⟨by rfl, ?_⟩) ?_ ?_
                  rotate_left
                  · intro w'
                    go_simp
                    first | done | with_reducible rfl
                  rotate_left
                  · simp only [Act.put, List.setIfInBounds_toArray, List.set_cons_zero, List.set_cons_succ, i64_w, i32_w]
                    rfl
                  refine one_ (i := 19) (N := some 147) #[true, true, true, true, true, true, true, true, true, true, true, true, true, true, true, true, true, true, true, true, false, false, false, false, false, false] rfl rfl (one_of HT_.out (by kernel_rfl)) (by decide) (fun K hK => ?_)
                  refine goes_ Try.func13 (by kernel_rfl) rfl #[.pointer (some ⟨a, 0, none⟩)] (by rfl) rfl rfl (by (try simp only [List.map_toArray, List.map_cons, List.map_nil]); first | done | rfl | (simp only [List.length_drop, List.length_take]; rfl)) ?_
                  with_reducible refine (sk_all K16.out.1 K11.out.2.2.2.1 K11.out.2.2.2.2).mono ?_
                  rintro e w17 ⟨v17, fr17, rfl, q17, k17, r17⟩; obtain ⟨A17, n17, c17, rfl, e17⟩ := R_val r17; obtain rfl : n17 = n4 - n10 := (by rw [e17, HM2.out, List.length_drop, K4.out.2.2]); have same20 := same_ns (c := c4 - n10) (d := c17) (drop_C (k17.row K16.out.2) HLE.out.1) (HM2.out ▸ R_C r17) (HM2.out ▸ K11.out.2.2.2.2.len); have K17 := Aside0.mk q17; clear q17 k17 r17 e17
                  refine ⟨_, rfl, ?_⟩
                  refine hK.out _ _ trivial (fun hHeld => ?_)
                  clear hK K
                  refine norm_ (a' := ?_) ?_ ?_
                  rotate_left
                  · show Act.put _ (some 147) _ = _
                    simp only [Act.put, List.setIfInBounds_toArray, List.set_cons_zero, List.set_cons_succ, i64_w, i32_w]
                    rfl
                  refine one_ (i := 20) (N := some 148) #[true, true, true, true, true, true, true, true, true, true, true, true, true, true, true, true, true, true, true, true, true, false, false, false, false, false] rfl rfl (one_of HT_.out (by kernel_rfl)) (by decide) (fun K hK => ?_)
                  refine goes_ Try.func17 (by kernel_rfl) rfl #[.slice (if c4 = n10 then A4 else A4.map (·.add (n10 * 2))) (n4 - n10) (c4 - n10), .slice A17 (n4 - n10) c17] (by rfl) rfl rfl (by (try simp only [List.map_toArray, List.map_cons, List.map_nil]); first | done | rfl | (simp only [List.length_drop, List.length_take]; rfl)) ?_
                  with_reducible refine (same20).mono ?_
                  rintro e w18 ⟨rfl, hb18⟩; have K18 := Aside0.mk hb18; clear hb18
                  refine ⟨_, rfl, ?_⟩
                  refine hK.out _ _ trivial (fun hHeld => ?_)
                  clear hK K
                  refine norm_ (a' := ?_) ?_ ?_
                  rotate_left
                  · show Act.put _ (some 148) _ = _
                    simp only [Act.put, List.setIfInBounds_toArray, List.set_cons_zero, List.set_cons_succ, i64_w, i32_w]
                    rfl
                  refine pure_ (i := 21) (N := some 149) (v := ?_) (a' := ?_) #[true, true, true, true, true, true, true, true, true, true, true, true, true, true, true, true, true, true, true, true, true, true, false, false, false, false] rfl rfl (any_of HT_.out (by kernel_rfl)) (fun _ _ _ h => h) (Or.inl ⟨by rfl, ?_⟩) ?_ ?_
                  rotate_left
                  · intro w'
                    go_simp
                    first | done | with_reducible rfl
                  rotate_left
                  · simp only [Act.put, List.setIfInBounds_toArray, List.set_cons_zero, List.set_cons_succ, i64_w, i32_w]
                    rfl
                  refine pure_ (i := 22) (N := some 150) (v := ?_) (a' := ?_) #[true, true, true, true, true, true, true, true, true, true, true, true, true, true, true, true, true, true, true, true, true, true, true, false, false, false] rfl rfl (any_of HT_.out (by kernel_rfl)) (fun _ _ _ h => h) (Or.inl ⟨by rfl, ?_⟩) ?_ ?_
                  rotate_left
                  · intro w'
                    go_simp
                    first | done | with_reducible rfl
                  rotate_left
                  · simp only [Act.put, List.setIfInBounds_toArray, List.set_cons_zero, List.set_cons_succ, i64_w, i32_w]
                    rfl
                  refine one_ (i := 23) (N := some 151) #[true, true, true, true, true, true, true, true, true, true, true, true, true, true, true, true, true, true, true, true, true, true, true, true, false, false] rfl rfl (one_of HT_.out (by kernel_rfl)) (by decide) (fun K hK => ?_)
                  refine goes_ Try.func7 (by kernel_rfl) rfl #[] (by rfl) rfl rfl (by (try simp only [List.map_toArray, List.map_cons, List.map_nil]); first | done | rfl | (simp only [List.length_drop, List.length_take]; rfl)) ?_
                  with_reducible refine (awake_calls _).mono ?_
                  rintro e w19 ⟨rfl, hb19⟩; have K19 := Aside0.mk hb19; clear hb19
                  refine ⟨_, rfl, ?_⟩
                  refine hK.out _ _ trivial (fun hHeld => ?_)
                  clear hK K
                  refine norm_ (a' := ?_) ?_ ?_
                  rotate_left
                  · show Act.put _ (some 151) _ = _
                    simp only [Act.put, List.setIfInBounds_toArray, List.set_cons_zero, List.set_cons_succ, i64_w, i32_w]
                    rfl
                  refine pure_ (i := 24) (N := some 152) (v := ?_) (a' := ?_) #[true, true, true, true, true, true, true, true, true, true, true, true, true, true, true, true, true, true, true, true, true, true, true, true, true, false] rfl rfl (any_of HT_.out (by kernel_rfl)) (fun _ _ _ h => h) (Or.inl ⟨by rfl, ?_⟩) ?_ ?_
                  rotate_left
                  · intro w'
                    go_simp
                    first | done | with_reducible rfl
                  rotate_left
                  · simp only [Act.put, List.setIfInBounds_toArray, List.set_cons_zero, List.set_cons_succ, i64_w, i32_w]
                    rfl
                  refine pure_ (i := 25) (N := some 6) (v := ?_) (a' := ?_) #[true, true, true, true, true, true, true, true, true, true, true, true, true, true, true, true, true, true, true, true, true, true, true, true, true, true] rfl rfl (any_of HT_.out (by kernel_rfl)) (fun _ _ _ h => h) (Or.inl ⟨by rfl, ?_⟩) ?_ ?_
                  rotate_left
                  · intro w'
                    go_simp
                    first | done | with_reducible rfl
                  rotate_left
                  · simp only [Act.put, List.setIfInBounds_toArray, List.set_cons_zero, List.set_cons_succ, i64_w, i32_w]
                    rfl
                  refine done_ (done_of HT_.out (by kernel_rfl)) ?_
                  try go_wp2
                  all_goals
                    go_ret
                    have hs17 := sk_bl K17.out
                    have hg17 := Nat.le_trans (Nat.le_of_lt HGL.out) hs17.size
                    exact ⟨by first | rfl | simp, below_trans (below_trans (below_trans HB1.out (below_lower hs17 (Nat.le_of_lt HGL.out))) (below_lower K18.out hg17)) (below_lower K19.out (Nat.le_trans hg17 K18.out.size))⟩

end Go.Proofs.Ytcknocglaimcpaa.WA

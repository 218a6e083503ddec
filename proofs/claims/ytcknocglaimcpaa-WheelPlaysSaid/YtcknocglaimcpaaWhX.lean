/- Tick. -/
import Derived.Test.YtcknocglaimcpaaWhW
namespace Go.Proofs.Ytcknocglaimcpaa.WA
open Go.RowKit Go.Proofs.YtcknocglaimcpaaW.PrintWords Go.Proofs.YtcknocglaimcpaaW.PrintLast Go.Proofs.YtcknocglaimcpaaW.PrintMore
open Go.Proofs.Ytcknocglaimcpaa.PW Go.Proofs.Ytcknocglaimcpaa.Wh Go.Maps
set_option linter.unusedVariables false
set_option linter.unusedSimpArgs false
set_option maxHeartbeats 8000000
set_option maxRecDepth 100000
section
variable {H : Type} {P : Program} {ops : Array Oper} {o : Oper} {a : Act} {w : World} {Kc : Act → World → Prop} {Q : Exit → Act → World → Prop} {E : Prop}
/-- delete, as one step of a region that draws. -/
theorem step_delete (hg : o.guard = none) (m x : Operand) (t k : TypeId) (hop : o.op = Op.call { callee := Callee.builtin Builtin.delete, args := #[m, x], argTypes := #[t, k] })
    (e : TypeId) (K : Keyed P k) (ht : P.underlying t = some (.map k e)) (R : Value → Option (DataW H × List MemPlace)) (b n : Nat) (D : DataW H)
    (hm : a.eval m = .map (some b)) (hown : w.ownsMap P k R b n D) (key : Value) (kl : Lit) (hx : a.eval x = key) (hkey : keyOf P k key = some kl)
    (hK : ∀ w', w'.ownsMap P k R b n (D.del kl) → w.mapTurned w' b → Kc (a.put o.dst (.tuple #[])) w') :
    if Region.wanted o (yielded ops a.tmps) = true then Oper.wp P o a w Kc Q else E := by
  have hw : Region.wanted o (yielded ops a.tmps) = true := by simp [Region.wanted, hg]
  rw [if_pos hw]
  obtain ⟨w', hrun, r1, r2⟩ := hown.drop K ht hkey o.type
  unfold Oper.wp
  simp [execOp, hop, resolve, invoke, builtin, hm, hx, hrun, Result.andThen]
  exact hK w' r1 r2
end
/-- The time turns. -/
theorem WAt.setNow {w : World} {base : Nat} {col : Nat → Nat} {b bm n : Nat} {D : DataW Unit} {cs : Array Value} {st : St} (h : WAt w base col b bm n D cs st) (n' : Int) :
    WAt (w.setCell ⟨b, 1, none⟩ (.int .i64 n')) base col b bm n D (cs.setIfInBounds 1 (.int .i64 n')) { st with now := n' } ∧ Fr w (w.setCell ⟨b, 1, none⟩ (.int .i64 n')) base col col b bm := by
  have hsz := h.sz
  refine ⟨⟨blk_set h.hb 1 _, by rw [Array.size_setIfInBounds]; exact h.sz, ?_, ?_, ?_, ?_, h.bb, h.cb, h.cm, ?_, h.du, h.bmb⟩, (Below.refl _ _).setCell h.bb _, fun _ _ _ => rfl, fun g _ _ hgb _ => Below.heap_setCell w ⟨b, _, none⟩ _ g hgb⟩
  · rw [Array.getElem?_setIfInBounds_ne (by omega)]; exact h.c0
  · rw [Array.getElem?_setIfInBounds_self_of_lt (by omega)]
  · rw [Array.getElem?_setIfInBounds_ne (by omega)]; exact h.c2
  · intro l k hl hk
    obtain ⟨v, hv, hR⟩ := h.sl l k hl hk
    refine ⟨v, by rw [Array.getElem?_setIfInBounds_ne (by omega)]; exact hv, ?_⟩
    exact Kd.R_far (p := ⟨b, _, none⟩) hR (fun g (hg : col g = l * 32 + k) (e : g = b) => by have := h.cb; rw [← e, hg] at this; omega) _
  · exact owns_same h.mp (Below.heap_setCell w ⟨b, _, none⟩ _ bm h.ne)
theorem tick_far {w : World} {base : Nat} {col : Nat → Nat} {b bm : Nat} {st : St} (h : WI w base col b bm st) (hf : far ≤ st.now) :
    Calls Try.prog 12 #[.pointer (some ⟨b, 0, none⟩)] w fun e w' => e = .returned (.slice none 0 0) ∧ w' = w := by
  obtain ⟨D, cs, h⟩ := h
  have hu := Try.underlying62
  have hn := none_at w b true (h.cell h.c0)
  have c1 := h.cell h.c1
  have hfb : decide ((1000000000 : Int) ≤ st.now) = true := decide_eq_true hf
  clear h hf
  go_enter Try.func12, Try.ntmps12
  go_wp2_with (go_at_call 26; refine hn.mono ?_; rintro e w' ⟨rfl, rfl⟩)
  go_ret
  exact ⟨rfl, rfl⟩
/-- What Tick has come to behind so many timers. -/
def tk (st : St) (n1 : Int) (xs : List Tm) (i : Nat) : St := { now := n1, due := fun k => if hasK (xs.take i) k = true then none else st.due k, cnt := st.cnt - i, slot := fall n1 5 1 st.slot }
theorem tk_due (st : St) (n1 : Int) (xs : List Tm) (i : Nat) (hi : i < xs.length) (hdue : ∀ t ∈ xs, (st.due t.1).isSome = true) (hkeys : xs.Pairwise fun s t => s.1 ≠ t.1) : ((tk st n1 xs i).due (xs[i]).1).isSome = true := by
  have h : hasK (xs.take i) (xs[i]).1 = false := by
    cases hh : hasK (xs.take i) (xs[i]).1 with
    | false => rfl
    | true =>
      obtain ⟨u, hu, he⟩ := (hasK_iff _ _).1 hh
      obtain ⟨j, hj, rfl⟩ := List.mem_iff_getElem.1 hu
      rw [List.length_take] at hj
      rw [List.getElem_take] at he
      exact absurd he ((List.pairwise_iff_getElem.1 hkeys) j i (by omega) hi (by omega))
  simp only [tk, h]
  exact hdue _ (List.getElem_mem hi)
theorem tk_next (st : St) (n1 : Int) (xs : List Tm) (i : Nat) (hi : i < xs.length) : (tk st n1 xs (i + 1)).due = (fun k => if k = (xs[i]).1 then none else (tk st n1 xs i).due k) ∧ (tk st n1 xs (i + 1)).cnt = (tk st n1 xs i).cnt - 1 := by
  constructor
  · funext k
    simp only [tk]
    rw [List.take_succ_eq_append_getElem hi]
    have e : hasK (xs.take i ++ [xs[i]]) k = (hasK (xs.take i) k || decide ((xs[i]).1 = k)) := by
      unfold hasK
      rw [List.any_append]
      simp
    rw [e]
    by_cases h1 : k = (xs[i]).1
    · rw [if_pos h1, if_pos (by rw [h1]; simp)]
    · rw [if_neg h1]
      have h2 : decide ((xs[i]).1 = k) = false := decide_eq_false (fun e => h1 e.symm)
      rw [h2, Bool.or_false]
  · simp only [tk]
    omega
/-- A step of Tick's loop: the row of what came is longer, the map has less. -/
theorem tick_step {w wr w5 w6 : World} {base : Nat} {col colr : Nat → Nat} {b bm n : Nat} {D : DataW Unit} {cs : Array Value} {st : St} {n1 : Int} {xs : List Tm} {i : Nat} {o : Obj} {v v1 : Value} {kl : Lit} (hi : i < xs.length)
    (h : WAt wr base colr b bm n D cs (tk st n1 xs i)) (hf : Fr w wr base col colr b bm) (hR : k38.R 38 wr w.heap.size (fun g => colr g = 203) v ((xs.take i).map ofT)) (hbase : base ≤ w.heap.size)
    (hdue : ∀ t ∈ xs, (st.due t.1).isSome = true) (hkeys : xs.Pairwise fun s t => s.1 ≠ t.1) (hkey : keyOf Try.prog 9 (.string (xs[i]).1) = some kl)
    (ho : k38.R 38 w5 w.heap.size (fun g => colr g = 203 ∨ wr.heap.size ≤ g) v1 ((xs.take (i + 1)).map ofT)) (hb : Below w.heap.size wr w5) (hg : (wr.alloc o).grownBy w5 v.ownBlock) :
    w5.cell? ⟨b, 2, none⟩ = some (.map (some bm)) ∧ w5.heap[wr.heap.size]? = (wr.alloc o).heap[wr.heap.size]? ∧ w5.ownsMap Try.prog 9 (plainElem (H := Unit) Try.prog 3) bm n D ∧
      ∀ w6, w6.ownsMap Try.prog 9 (plainElem (H := Unit) Try.prog 3) bm n (D.del kl) → w5.grownBy w6 (some bm) → ∃ col6, WAt w6 base col6 b bm n (D.del kl) cs (tk st n1 xs (i + 1)) ∧ Fr w w6 base col col6 b bm ∧ k38.R 38 w6 w.heap.size (fun g => col6 g = 203) v1 ((xs.take (i + 1)).map ofT) := by
  have hvo : ∀ g, some g = v.ownBlock → colr g = 203 ∧ w.heap.size ≤ g ∧ g < wr.heap.size := fun g e => ⟨(Kd.R_bound hR).1 g e.symm |>.1, (Kd.R_bound hR).1 g e.symm |>.2.1, (Kd.R_bound hR).1 g e.symm |>.2.2.1⟩
  have hkeep : ∀ g, g < wr.heap.size → colr g ≠ 203 → w5.heap[g]? = wr.heap[g]? := by
    intro g hlt hne
    have h1 : w5.heap[g]? = (wr.alloc o).heap[g]? := hg.block g (by simp; omega) (fun e => hne (hvo g e).1)
    rw [h1]
    exact (below_alloc (Below.refl _ wr) o).block g hlt
  have hsz : wr.heap.size ≤ w5.heap.size := hb.size
  have h5 : WAt w5 base (newCol wr colr 203) b bm n D cs (tk st n1 xs i) := h.stay hsz (fun g hlt hc => hkeep g hlt (by
    rcases hc with hc | rfl | rfl
    · omega
    · rw [h.cb]; decide
    · rw [h.cm]; decide)) (fun g hlt => newCol_lt hlt)
  refine ⟨h5.cell h5.c2, hg.block _ (by simp) (fun e => by have := (hvo _ e).2.2; omega), h5.mp, ?_⟩
  intro w6 hown hturn
  obtain ⟨e1, e2⟩ := tk_next st n1 xs i hi
  obtain ⟨m1, m2⟩ := h5.map hturn hown _ _ (due_del h5.du (h5.mp.tidy keyLaw) hkey (tk_due st n1 xs i hi hdue hkeys))
  have hbm : bm < w5.heap.size := owns_lt h5.mp
  refine ⟨newCol w5 (newCol wr colr 203) 202, m1.congr rfl e1 e2 (fun _ _ _ _ => rfl), ⟨?_, ?_, ?_⟩, ?_⟩
  · exact below_trans (below_trans hf.bl (below_lower hb hbase)) m2.bl
  · intro g hlt hc
    have hg1 : g < wr.heap.size := Nat.lt_of_lt_of_le hlt hf.bl.size
    rw [newCol_lt (Nat.lt_of_lt_of_le hg1 hsz), newCol_lt hg1]
    exact hf.co g hlt hc
  · intro g hlt hc hgb hgm
    have hg1 : g < wr.heap.size := Nat.lt_of_lt_of_le hlt hf.bl.size
    have x1 : w6.heap[g]? = w5.heap[g]? := hturn.block g (Nat.lt_of_lt_of_le hg1 hsz) (fun e => hgm (Option.some.inj e))
    have x2 : w5.heap[g]? = wr.heap[g]? := hb.block g hlt
    rw [x1, x2]
    exact hf.sa g hlt hc hgb hgm
  · refine R_col ho hturn.size ?_ ?_
    · intro g hlt hc
      refine hturn.block g hlt (fun e => ?_)
      obtain rfl := Option.some.inj e
      have hm := h.cm
      have hml := owns_lt h.mp
      rcases hc with hc | hc <;> omega
    · intro g hlt hc
      rw [newCol_lt hlt]
      rcases hc with hc | hc
      · by_cases hlt2 : g < wr.heap.size
        · rw [newCol_lt hlt2]; exact hc
        · exact newCol_ge hlt2
      · exact newCol_ge (by omega)
theorem tick_near {w : World} {base : Nat} {col : Nat → Nat} {b bm : Nat} {st : St} (h : WI w base col b bm st) (h0 : 0 ≤ st.now) (hf : st.now < far) (n1 : Int) (hn1 : n1 = st.now + 1) (hG : G n1 1 st.slot) (hlen : (flat st.slot).length ≤ 1000)
    (kk : Nat) (hkk : kk = idx 0 n1) (xs : List Tm) (hxs : xs = fall n1 5 1 st.slot 0 kk) (hnd : xs.Nodup) (hdue : ∀ t ∈ xs, (st.due t.1).isSome = true) (hkeys : xs.Pairwise fun s t => s.1 ≠ t.1) (hsize : ∀ t ∈ xs, ∃ kl, keyOf Try.prog 9 (.string t.1) = some kl) (hxl : xs.length ≤ 1000) :
    Calls Try.prog 12 #[.pointer (some ⟨b, 0, none⟩)] w fun e w' => ∃ v col', e = .returned v ∧ k38.R 38 w' w.heap.size (fun g => col' g = 203) v ((tickO st).map ofT) ∧ WI w' base col' b bm (tickS st) ∧ Fr w w' base col col' b bm := by
  obtain ⟨D, cs, h⟩ := h
  have hu := Try.underlying62
  have hu38 := Try.underlying38
  have hu60 := Try.underlying60
  have hu59 := Try.underlying59
  have hz59 : ∀ w, (sizeOf 59).run Try.prog w = .ok 32 w := fun w => by kernel_rfl
  have hz35 : ∀ w, (sizeOf 35).run Try.prog w = .ok 1 w := fun w => by kernel_rfl
  have hn := none_at w b true (h.cell h.c0)
  have c1 := h.cell h.c1
  have f1 := h.frozen 1
  have hfb : decide ((1000000000 : Int) ≤ st.now) = false := decide_eq_false (by unfold far at hf; omega)
  have hw1 : wrap64 (st.now + 1) = n1 := by rw [hn1]; unfold far at hf; exact wrap64_is (by omega) (by omega)
  have hk32 : kk < 32 := by rw [hkk]; exact idx_lt _ _
  have hkm : Int.tmod n1 32 = (kk : Int) := by
    rw [hkk, Int.tmod_eq_emod_of_nonneg (by omega)]
    unfold idx
    simp only [sp, Int.ediv_one]
    omega
  have hkI : (kk : Int) < 32 := by omega
  have hfall := fall_calls (h.setNow n1).1.wi (by show 1 ≤ n1; omega) (by show n1 ≤ 1000000000; unfold far at hf; omega) (by show G n1 1 st.slot; exact hG) (by exact hlen)
  have HF := Aside0.mk (h.setNow n1).2
  have HB0 := Aside0.mk h.base_le
  have HS := Aside0.mk (show (fall n1 5 1 st.slot 0 kk) = xs from hxs.symm)
  have HX := Aside0.mk (And.intro hnd (And.intro hdue (And.intro hkeys (And.intro hsize (And.intro hxl (And.intro hkk (And.intro hn1 (And.intro h0 hf))))))))
  clear h hf hG hlen hnd hdue hkeys hsize hxs hkk hn1 h0 hxl
  go_enter Try.func12, Try.ntmps12
  go_wp2_with (first | (go_at_call 26; refine hn.mono ?_; rintro e w' ⟨rfl, rfl⟩) | (go_at_call 28; refine hfall.mono ?_; rintro e w3 ⟨rfl, col3, ⟨D3, cs3, h3⟩, f3⟩; have c13 := h3.cell h3.c1; obtain ⟨v0, hv0, hR0⟩ := h3.sl 0 kk (by decide) hk32; have hR0 : k38.R 38 w3 base (fun g => col3 g = 0 * 32 + kk) v0 ((fall n1 5 1 st.slot 0 kk).map ofT) := hR0; rw [HS.out] at hR0; obtain ⟨A1, C1, e1⟩ := Kd.R_slice hR0; subst e1; rw [List.length_map] at hv0; have hcv := h3.cell hv0; have hfv := h3.frozen (3 + 0 * 32 + kk); rw [show 3 + 0 * 32 + kk = 3 + kk by omega] at hcv hfv; have H3 := Aside0.mk (And.intro h3 (And.intro hv0 (HF.out.trans f3))); clear h3 hv0 hR0 f3))
  go_quiet (fail)
  go_wp2
  have HQ : Aside0 (WAt (w3.drewN nq) base col3 b bm st.cnt D3 cs3 (tk st n1 xs 0) ∧ Fr w' (w3.drewN nq) base col col3 b bm ∧ base ≤ w'.heap.size ∧ cs3[3 + kk]? = some (.slice A1 xs.length C1)) := ⟨by
    refine ⟨?_, H3.out.2.2.trans ⟨pw_below_drewN (Below.refl _ _) _, fun _ _ _ => rfl, fun _ _ _ _ _ => rfl⟩, ?_, ?_⟩
    · have h3 := H3.out.1.stay (w1 := w3.drewN nq) (Nat.le_refl _) (fun _ _ _ => rfl) (fun _ _ => rfl)
      refine h3.congr rfl ?_ ?_ (fun _ _ _ _ => rfl)
      · funext k
        simp [tk, hasK]
      · simp [tk]
    · exact HB0.out
    · have := H3.out.2.1
      rw [show 3 + 0 * 32 + kk = 3 + kk by omega] at this
      exact this⟩
  clear hn c1 f1 hfall c13 hcv hfv H3 HF
  generalize w3.drewN nq = wq at HQ ⊢
  go_loopg [4, 39] (xs.length) (fun kq v4 v39 w2 => ∃ (i : Nat) (D' : DataW Unit) (colr : Nat → Nat), v39 = .int .i64 i ∧ Aside0 (i + kq = xs.length) ∧ Aside0 (WAt w2 base colr b bm st.cnt D' cs3 (tk st n1 xs i) ∧ Fr w' w2 base col colr b bm ∧ k38.R 38 w2 w'.heap.size (fun g => colr g = 203) v4 ((xs.take i).map ofT)))
  case atStart => exact ⟨0, D3, col3, rfl, ⟨by omega⟩, ⟨HQ.out.1, HQ.out.2.1, Kd.R_nil _ _ _ _ _⟩⟩
  case round =>
    obtain ⟨i, D', colr, rfl, HI, HS4⟩ := hrel
    by_cases hil : i < xs.length
    case neg =>
      have hib4 : decide (i < xs.length) = false := decide_eq_false hil
      have hi : i = xs.length := by have := HI.out; omega
      subst hi
      have hfv := HS4.out.1.frozen (3 + kk)
      have hcv := HS4.out.1.cell HQ.out.2.2.2
      have hsort : Calls Try.prog 29 #[u4] (wr.setCell ⟨b, 3 + kk, none⟩ (.slice none 0 0)) fun e w7 => e = .returned u4 ∧ ∃ col', k38.R 38 w7 w'.heap.size (fun g => col' g = 203) u4 ((tickO st).map ofT) ∧ WI w7 base col' b bm (tickS st) ∧ Fr w' w7 base col col' b bm := by
        obtain ⟨h4, f4, r4⟩ := HS4.out
        obtain ⟨e1, e2⟩ := h4.empty 0 kk (by decide) hk32
        rw [show 3 + 0 * 32 + kk = 3 + kk by omega] at e1 e2
        rw [List.take_length] at r4
        have hcb := h4.cb
        have hcm := h4.cm
        have r5 : k38.R 38 (wr.setCell ⟨b, 3 + kk, none⟩ (.slice none 0 0)) w'.heap.size (fun g => colr g = 203) u4 (xs.map ofT) := Kd.R_far (p := ⟨b, _, none⟩) r4 (fun g (hg : colr g = 203) (e : g = b) => by rw [← e, hg] at hcb; omega) _
        have r6 : k38.R 38 (wr.setCell ⟨b, 3 + kk, none⟩ (.slice none 0 0)) w'.heap.size (fun g => colr g = 203 ∧ g < (wr.setCell ⟨b, 3 + kk, none⟩ (.slice none 0 0)).heap.size) u4 (xs.map ofT) := Kd.R_mono (Kd.R_bound r5) (fun g ⟨h1, _, h2, _⟩ => ⟨h1, h2⟩)
        have hs := sort_calls _ w'.heap.size _ u4 xs r6 HX.out.1 (by have := HX.out.2.2.2.2.1; omega)
        refine hs.mono ?_
        rintro e w7 ⟨rfl, hR7, hg7⟩
        have hvo : ∀ g, some g = u4.ownBlock → colr g = 203 ∧ w'.heap.size ≤ g := fun g e => ⟨(Kd.R_bound r5).1 g e.symm |>.1, (Kd.R_bound r5).1 g e.symm |>.2.1⟩
        have hsz := hg7.size
        refine ⟨rfl, newCol (wr.setCell ⟨b, 3 + kk, none⟩ (.slice none 0 0)) (freed colr (0 * 32 + kk)) 202, ?_, ?_, ?_, ?_, ?_⟩
        · have hO : tickO st = sortT xs := by
            unfold tickO
            have h9 := HX.out.2.2.2.2.2.2
            rw [if_neg (by omega), ← h9.1, ← HX.out.2.2.2.2.2.1, HS.out]
          rw [hO]
          refine Kd.R_mono hR7 ?_
          rintro g ⟨hg, hlt2⟩
          show newCol _ _ _ g = _
          rw [newCol_lt hlt2]
          unfold freed
          rw [if_neg (by omega)]
          exact hg
        · have w7a := e1.stay (w1 := w7) (col1 := newCol (wr.setCell ⟨b, 3 + kk, none⟩ (.slice none 0 0)) (freed colr (0 * 32 + kk)) 202) hsz (fun g hlt hc => hg7.block g hlt (fun e => by
            have h1 := (hvo g e).1
            rcases hc with hc | rfl | rfl
            · unfold freed at hc
              rw [if_neg (by omega)] at hc
              omega
            · omega
            · omega)) (fun g hlt => newCol_lt hlt)
          refine (w7a.congr ?_ ?_ ?_ ?_).wi
          · unfold tickS
            have h9 := HX.out.2.2.2.2.2.2
            rw [if_neg (by omega)]
            exact h9.1.symm
          · unfold tickS
            have h9 := HX.out.2.2.2.2.2.2
            rw [if_neg (by omega)]
            simp only [← h9.1, ← HX.out.2.2.2.2.2.1, HS.out, tk, List.take_length]
          · unfold tickS
            have h9 := HX.out.2.2.2.2.2.2
            rw [if_neg (by omega)]
            simp only [← h9.1, ← HX.out.2.2.2.2.2.1, HS.out, tk]
          · intro l k _ _
            unfold tickS
            have h9 := HX.out.2.2.2.2.2.2
            rw [if_neg (by omega)]
            simp only [← h9.1, ← HX.out.2.2.2.2.2.1, tk]
        · exact below_trans (below_trans f4.bl e2.bl) ⟨hg7.os, hg7.tape, hg7.output, hg7.size, fun g hlt => hg7.block g (Nat.lt_of_lt_of_le hlt e1.base_le) (fun e => by have := (hvo g e).2; have := HQ.out.2.2.1; omega)⟩
        · intro g hlt hc
          have hg1 := Nat.lt_of_lt_of_le hlt (Nat.le_trans f4.bl.size e2.bl.size)
          rw [newCol_lt hg1]
          have h1 := f4.co g hlt hc
          unfold freed
          rw [if_neg (by omega)]
          exact h1
        · intro g hlt hc hgb hgm
          have hg1 := Nat.lt_of_lt_of_le hlt (Nat.le_trans f4.bl.size e2.bl.size)
          have h1 := f4.co g hlt hc
          rw [hg7.block g hg1 (fun e => by have := (hvo g e).2; omega), e2.sa g (Nat.lt_of_lt_of_le hlt f4.bl.size) (by rw [h1]; exact hc) hgb hgm]
          exact f4.sa g hlt hc hgb hgm
      clear hil
      go_wp2_with (go_at_call 29; refine hsort.mono ?_; rintro e w7 ⟨rfl, col', hb7⟩; have HB7 := Aside0.mk hb7; clear hb7)
      go_ret
      exact ⟨_, col', rfl, HB7.out⟩
    have hib4 : decide (i < xs.length) = true := decide_eq_true hil
    obtain ⟨v0, hv0, hR0⟩ := HS4.out.1.sl 0 kk (by decide) hk32
    have hR0 : k38.R 38 wr base (fun g => colr g = 0 * 32 + kk) v0 ((fall n1 5 1 st.slot 0 kk).map ofT) := hR0
    rw [HS.out] at hR0
    obtain rfl : v0 = .slice A1 xs.length C1 := by
      rw [show 3 + 0 * 32 + kk = 3 + kk by omega, HQ.out.2.2.2] at hv0
      exact (Option.some.inj hv0).symm
    have hCr := (Kd.R_reads' hR0).2.2
    rw [List.length_map] at hCr
    obtain ⟨ad, hA, d0, d1⟩ := at_T38 hCr (i : Int) (by omega) (by omega)
    obtain ⟨t, ht⟩ : ∃ t, t = xs[i] := ⟨_, rfl⟩
    have hrd : rd_T38 (xs.map ofT) (i : Int) = ⟨t.1, t.2⟩ := by
      unfold rd_T38
      rw [ht]
      simp [List.getD, hil, ofT]
    rw [hrd, Int.toNat_natCast] at d0 d1
    obtain ⟨kl, hkl⟩ := HX.out.2.2.2.1 t (by rw [ht]; exact List.getElem_mem _)
    have HKL := Aside0.mk hkl
    have E7 : Aside0 (wrap64 ((i : Int) + 1) = ((i + 1 : Nat) : Int)) := ⟨by have := HX.out.2.2.2.2.1; rw [wrap64_is (by omega) (by omega)]; omega⟩
    have HSTEP : Aside0 (∀ v1 w5, k38.R 38 w5 w'.heap.size (fun g => colr g = 203 ∨ wr.heap.size ≤ g) v1 ((xs.take i).map ofT ++ [⟨t.1, t.2⟩]) → Below w'.heap.size wr w5 → (wr.alloc (.cells #[.string t.1, .int .i64 t.2] 38)).grownBy w5 u4.ownBlock →
        w5.cell? ⟨b, 2, none⟩ = some (.map (some bm)) ∧ w5.cell? ⟨wr.heap.size, 0, none⟩ = some (.string t.1) ∧ w5.ownsMap Try.prog 9 (plainElem (H := Unit) Try.prog 3) bm st.cnt D' ∧
          ∀ w6, w6.ownsMap Try.prog 9 (plainElem (H := Unit) Try.prog 3) bm st.cnt (D'.del kl) → w5.grownBy w6 (some bm) → ∃ col6, WAt w6 base col6 b bm st.cnt (D'.del kl) cs3 (tk st n1 xs (i + 1)) ∧ Fr w' w6 base col col6 b bm ∧ k38.R 38 w6 w'.heap.size (fun g => col6 g = 203) v1 ((xs.take (i + 1)).map ofT)) := ⟨by
      intro v1 w5 ho hb hg
      have e : (xs.take i).map ofT ++ [⟨t.1, t.2⟩] = (xs.take (i + 1)).map ofT := by
        rw [List.take_succ_eq_append_getElem hil, List.map_append, ht]
        rfl
      rw [e] at ho
      obtain ⟨s1, s2, s3, s4⟩ := tick_step (w6 := w5) hil HS4.out.1 HS4.out.2.1 HS4.out.2.2 HQ.out.2.2.1 HX.out.2.1 HX.out.2.2.1 (by rw [← ht]; exact hkl) ho hb hg
      refine ⟨s1, ?_, s3, s4⟩
      have hbk : w5.heap[wr.heap.size]? = some (.cells #[.string t.1, .int .i64 t.2] 38 (0, 0)) := s2.trans (blk_new _ _)
      exact (blk_cell hbk 0).trans rfl⟩
    have HO4 := Aside0.mk HS4.out.2.2
    have HTL : Aside0 (((xs.take i).map ofT).length ≤ 1000) := ⟨by have := HX.out.2.2.2.2.1; rw [List.length_map, List.length_take]; omega⟩
    have hsz4 := HS4.out.2.1.bl.size
    have HSZ := Aside0.mk hsz4
    have hir : (0 : Int) ≤ (i : Int) := by omega
    have hil2 : (i : Int) < (xs.length : Int) := by omega
    subst hA
    clear hrd ht hil hR0 hCr hv0 hkl hsz4
    go_wp2_with (first | ((with_reducible refine gate_builtin (b := .append) (xs := #[.tmp 43, .tmp 45]) rfl ?_); at_builtin; refine Kd.R_append k38 (w0 := wr) w'.heap.size rfl (.tmp 43) (.tmp 45) 35 38 (.agg #[.string ⟨#[]⟩, .int .i64 0]) 24 rfl Try.underlying35 info38 rfl (by decide) (by omega) u4 ((xs.take i).map ofT) ⟨t.1, t.2⟩ [.string t.1, .int .i64 t.2] (fun g => colr g = 203 ∨ wr.heap.size ≤ g) (fun _ => False) rfl ?aX (k38_mkM _ _ _ _) (fun _ hk => hk.elim) ?aF ?aO ?aB ?aS ?aL ?_; (case aX => show Value.slice (some ⟨wr.heap.size + 1, 0, none⟩) 1 1 = _; simp); (case aF => intro g hg; right; exact Nat.le_trans (below_alloc (Below.refl wr.heap.size wr) _).size hg); (case aO => exact Kd.R_below (Kd.R_mono HO4.out (fun g hg => Or.inl hg)) (below_alloc (Below.refl _ _) _)); (case aB => exact below_lower (below_alloc (Below.refl wr.heap.size wr) _) HSZ.out); (case aS => exact Nat.le_trans HSZ.out (below_alloc (Below.refl wr.heap.size wr) _).size); (case aL => have := HTL.out; omega); intro v1 w5 ho hb hg hat; obtain ⟨s1, s2, s3, s4⟩ := HSTEP.out v1 w5 ho hb hg; have N4 := Aside0.mk (And.intro s3 s4); clear ho hb hg hat s3 s4))
    go_region_law (refine step_delete rfl (.tmp 50) (.tmp 52) 58 9 rfl 3 keyLaw Try.underlying58 _ bm st.cnt D' rfl N4.out.1 _ kl rfl HKL.out ?_; intro w6 hown6 hturn6; have N6 := Aside0.mk (N4.out.2 w6 hown6 ⟨hturn6.grown.os, hturn6.grown.tape, hturn6.grown.output, hturn6.grown.size, hturn6.grown.block⟩); clear hown6 hturn6)
    all_goals
      go_wp2
      go_roundg (xs.length - i - 1)
      case measure => have := HI.out; omega
      case rel =>
        obtain ⟨col6, h6⟩ := N6.out
        exact ⟨i + 1, D'.del kl, col6, by first | rw [E7.out] | (push_cast; rfl), ⟨by have := HI.out; omega⟩, ⟨h6⟩⟩
end Go.Proofs.Ytcknocglaimcpaa.WA

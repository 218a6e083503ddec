/- filled; two wheels in one memory. -/
import Derived.Test.YtcknocglaimcpaaWhZd
namespace Go.Proofs.Ytcknocglaimcpaa.WA
open Go.RowKit Go.Proofs.YtcknocglaimcpaaW.PrintWords Go.Proofs.YtcknocglaimcpaaW.PrintLast Go.Proofs.YtcknocglaimcpaaW.PrintMore
open Go.Proofs.Ytcknocglaimcpaa.PW Go.Proofs.Ytcknocglaimcpaa.Wh Go.Maps
set_option linter.unusedVariables false
set_option linter.unusedSimpArgs false
set_option maxHeartbeats 8000000
set_option maxRecDepth 100000
def fill (now : Int) : List S31 → St → List Tm → St × List Tm
  | [], s, L => (s, L)
  | t :: l, s, L => fill now l (setS s t.f1 (laterT now t.f2)) (setL s L t.f1 (laterT now t.f2))
theorem AW.drewN {w0 w : World} {col : Nat → Nat} {b bm : Nat} {st : St} {L : List Tm} (h : AW w0 w col b bm st L) (m : Nat) : AW w0 (w.drewN m) col b bm st L := by
  obtain ⟨⟨D, cs, h1⟩, h2, h3, h4, h5, h6⟩ := h
  exact ⟨(h1.stay (w1 := w.drewN m) (Nat.le_refl _) (fun _ _ _ => rfl) (fun _ _ => rfl)).wi, h2, h3, h4, below_trans h5 (pw_below_drewN (Below.refl _ _) _), h6⟩
theorem filled_calls (w : World) (now : Int) (A : Option Addr) (c : Nat) (l : List S31) (hC : Kd.C k31 w A l.length l) (h0 : 0 ≤ now) (h1 : now ≤ 1000000000) (hl : l.length ≤ 250) (hk : ∀ t ∈ l, t.f1.size ≤ 1000) :
    Calls Try.prog 15 #[.int .i64 now, .slice A l.length c] w fun e w' => ∃ b bm col, e = .returned (.pointer (some ⟨b, 0, none⟩)) ∧ AW w w' col b bm (fill now l (newS now) []).1 (fill now l (newS now) []).2 := by
  have H1 := Aside0.mk (And.intro hC (And.intro hl hk))
  have hnew := new_aw w now h0 h1
  have HN := Aside0.mk (And.intro h0 h1)
  clear hC h0 h1 hl hk
  go_enter Try.func15, Try.ntmps15
  go_wp2_with (go_at_call 8; refine hnew.mono ?_; rintro e w1 ⟨b, bm, col, rfl, h⟩; have K1 := Aside0.mk h; clear h)
  go_loopg [7] (l.length) (fun kq v7 w2 => ∃ (i : Nat) (s : St) (L : List Tm) (col2 : Nat → Nat), v7 = .int .i64 i ∧ Aside0 (i + kq = l.length) ∧ Aside0 (AW w w2 col2 b bm s L ∧ L.length ≤ i ∧ fill now (l.drop i) s L = fill now l (newS now) []))
  case atStart => exact ⟨0, newS now, [], col, rfl, ⟨by omega⟩, ⟨K1.out, by decide, rfl⟩⟩
  case round =>
    obtain ⟨i, s, L, col2, rfl, HI, HS⟩ := hrel
    by_cases hi : i < l.length
    case neg =>
      have hib : decide (i < l.length) = false := decide_eq_false hi
      have HE : Aside0 (fill now l (newS now) [] = (s, L)) := ⟨by
        have h := HS.out.2.2
        rw [List.drop_of_length_le (by omega)] at h
        exact h.symm⟩
      clear hi
      go_wp2
      go_ret
      exact ⟨b, bm, col2, rfl, by rw [HE.out]; exact HS.out.1⟩
    have hib : decide (i < l.length) = true := decide_eq_true hi
    obtain ⟨ad, hA, c0, c1, c2⟩ := at_T31 (Kd.C_below H1.out.1 HS.out.1.2.2.2.2.1) (i : Int) (by omega) (by omega)
    obtain ⟨x, hx⟩ : ∃ x, x = l[i] := ⟨_, rfl⟩
    have hrd : rd_T31 l (i : Int) = x := by
      unfold rd_T31
      rw [hx]
      simp [List.getD, hi]
    rw [hrd, Int.toNat_natCast] at c0 c1 c2
    have HD : Aside0 (fill now (l.drop (i + 1)) (setS s x.f1 (laterT now x.f2)) (setL s L x.f1 (laterT now x.f2)) = fill now l (newS now) []) := ⟨by
      have h := HS.out.2.2
      rw [List.drop_eq_getElem_cons hi, ← hx] at h
      exact h⟩
    have hkx : x.f1.size ≤ 1000 := by rw [hx]; exact H1.out.2.2 _ (List.getElem_mem _)
    have hlat := fun W => later_calls now x.f2 HN.out.1 HN.out.2 W
    have hset := fun m => aw_set (HS.out.1.drewN m) (by have := HS.out.2.1; have := H1.out.2.1; omega) x.f1 (laterT now x.f2) hkx
    have hw1 : Aside0 (wrap64 ((i : Int) + 1) = ((i + 1 : Nat) : Int)) := ⟨by have := H1.out.2.1; rw [wrap64_is (by omega) (by omega)]; omega⟩
    have hir : (0 : Int) ≤ (i : Int) := by omega
    have hil : (i : Int) < (l.length : Int) := by omega
    have HIL := Aside0.mk hi
    subst hA
    clear hi hrd hx hkx
    generalize laterT now x.f2 = lt at hlat hset HD
    go_wp2
    go_region_with (first | (go_at_call 9; refine (hlat _).mono ?_; rintro e w3 ⟨rfl, rfl⟩) | (go_at_call 10; refine (hset _).mono ?_; rintro e w4 ⟨rfl, col4, h4, _⟩; have N4 := Aside0.mk h4; clear h4))
    all_goals
      go_wp2
      go_roundg (gk - 1)
      case measure => have := HI.out; have := HIL.out; omega
      case rel =>
        refine ⟨i + 1, _, _, col4, by first | rw [hw1.out] | (push_cast; rfl), ⟨by have := HI.out; have := HIL.out; omega⟩, ⟨N4.out, ?_, HD.out⟩⟩
        unfold setL
        split
        · have := insL_length L x.f1 lt
          have := HS.out.2.1
          omega
        · have := HS.out.2.1
          omega
def mine (col : Nat → Nat) (b bm g : Nat) : Prop := col g < 192 ∨ g = b ∨ g = bm
theorem mine_no {col : Nat → Nat} {b bm g : Nat} (h : ¬ mine col b bm g) : 192 ≤ col g ∧ g ≠ b ∧ g ≠ bm := by
  unfold mine at h
  refine ⟨?_, fun e => h (.inr (.inl e)), fun e => h (.inr (.inr e))⟩
  rcases Nat.lt_or_ge (col g) 192 with h1 | h1
  · exact absurd (.inl h1) h
  · exact h1
theorem mine_not {col : Nat → Nat} {b bm g : Nat} (h1 : 192 ≤ col g) (h2 : g ≠ b) (h3 : g ≠ bm) : ¬ mine col b bm g := by
  rintro (h | h | h) <;> omega
theorem fr_mine {w w' : World} {base : Nat} {col col' : Nat → Nat} {b bm : Nat} (hf : Fr w w' base col col' b bm) {g : Nat} (hg : g < w.heap.size) (hm : ¬ mine col b bm g) : w'.heap[g]? = w.heap[g]? ∧ ¬ mine col' b bm g := by
  obtain ⟨h1, h2, h3⟩ := mine_no hm
  exact ⟨hf.sa g hg h1 h2 h3, mine_not (by rw [hf.co g hg h1]; exact h1) h2 h3⟩
/-- What is kept: the free memory. -/
def Kp (w w' : World) (fr fr' : Nat → Prop) : Prop := w.heap.size ≤ w'.heap.size ∧ ∀ g, g < w.heap.size → fr g → w'.heap[g]? = w.heap[g]? ∧ fr' g
theorem Kp.row {w w' : World} {fr fr' : Nat → Prop} (h : Kp w w' fr fr') {v : Value} {xs : List S38} (hR : k38.R 38 w 0 fr v xs) : k38.R 38 w' 0 fr' v xs := R_col hR h.1 (fun g hg hf => (h.2 g hg hf).1) (fun g hg hf => (h.2 g hg hf).2)
theorem WI.lower {w : World} {base base' : Nat} {col : Nat → Nat} {b bm : Nat} {st : St} (h : WI w base col b bm st) (hb : base' ≤ base) : WI w base' col b bm st := by
  obtain ⟨D, cs, h⟩ := h
  refine ⟨D, cs, h.hb, h.sz, h.c0, h.c1, h.c2, ?_, Nat.le_trans hb h.bb, h.cb, h.cm, h.mp, h.du, Nat.le_trans hb h.bmb⟩
  intro l k hl hk
  obtain ⟨v, hv, hR⟩ := h.sl l k hl hk
  exact ⟨v, hv, Kd.R_lower hR hb⟩
theorem WI.stay {w w1 : World} {base : Nat} {col : Nat → Nat} {b bm : Nat} {st : St} (h : WI w base col b bm st) (hsz : w.heap.size ≤ w1.heap.size) (hs : ∀ g, g < w.heap.size → mine col b bm g → w1.heap[g]? = w.heap[g]?) : WI w1 base (newCol w col 202) b bm st := by
  obtain ⟨D, cs, h⟩ := h
  exact (h.stay hsz hs (fun g hg => newCol_lt hg)).wi
theorem WI.lt {w : World} {base : Nat} {col : Nat → Nat} {b bm : Nat} {st : St} (h : WI w base col b bm st) : b < w.heap.size ∧ bm < w.heap.size ∧ base ≤ w.heap.size := by
  obtain ⟨D, cs, h⟩ := h
  exact ⟨h.blt, owns_lt h.mp, h.base_le⟩
/-- Two wheels. -/
structure Two (w0 w : World) (ca cb : Nat → Nat) (a am b bm : Nat) (sa sb : St) : Prop where
  wa : WI w w0.heap.size ca a am sa
  wb : WI w w0.heap.size cb b bm sb
  ra : ∃ L, Rel sa L ∧ Sm L
  rb : ∃ L, Rel sb L ∧ Sm L
  sep : ∀ g, g < w.heap.size → ¬ (mine ca a am g ∧ mine cb b bm g)
  bl : Below w0.heap.size w0 w
def free (ca cb : Nat → Nat) (a am b bm g : Nat) : Prop := ¬ mine ca a am g ∧ ¬ mine cb b bm g
theorem two_left {w0 w w' : World} {ca ca' cb : Nat → Nat} {a am b bm : Nat} {sa sa' sb : St} (h : Two w0 w ca cb a am b bm sa sb) (hw : WI w' w0.heap.size ca' a am sa') (hr : ∃ L, Rel sa' L ∧ Sm L) (hf : Fr w w' w0.heap.size ca ca' a am) :
    Two w0 w' ca' (newCol w cb 202) a am b bm sa' sb ∧ Kp w w' (free ca cb a am b bm) (free ca' (newCol w cb 202) a am b bm) ∧ ∀ g, w.heap.size ≤ g → 192 ≤ ca' g → free ca' (newCol w cb 202) a am b bm g := by
  have hsz := hf.bl.size
  obtain ⟨la, lam, _⟩ := h.wa.lt
  obtain ⟨lb, lbm, _⟩ := h.wb.lt
  have hB : ∀ g, g < w.heap.size → mine (newCol w cb 202) b bm g → mine cb b bm g := fun g hg hm => by
    unfold mine at hm
    rw [newCol_lt hg] at hm
    exact hm
  have hB2 : ∀ g, ¬ g < w.heap.size → ¬ mine (newCol w cb 202) b bm g := fun g hg => mine_not (by rw [newCol_ge hg]; decide) (by omega) (by omega)
  refine ⟨⟨hw, h.wb.stay hsz (fun g hg hm => (fr_mine hf hg (fun hm' => h.sep g hg ⟨hm', hm⟩)).1), hr, h.rb, ?_, below_trans h.bl hf.bl⟩, ⟨hsz, ?_⟩, ?_⟩
  · rintro g hg ⟨m1, m2⟩
    by_cases hlt : g < w.heap.size
    · have m2 := hB g hlt m2
      exact (fr_mine hf hlt (fun hm' => h.sep g hlt ⟨hm', m2⟩)).2 m1
    · exact hB2 g hlt m2
  · rintro g hg ⟨m1, m2⟩
    obtain ⟨q1, q2⟩ := fr_mine hf hg m1
    exact ⟨q1, q2, fun hm => m2 (hB g hg hm)⟩
  · intro g hg hc
    exact ⟨mine_not hc (by omega) (by omega), hB2 g (by omega)⟩
theorem Two.swap {w0 w : World} {ca cb : Nat → Nat} {a am b bm : Nat} {sa sb : St} (h : Two w0 w ca cb a am b bm sa sb) : Two w0 w cb ca b bm a am sb sa := ⟨h.wb, h.wa, h.rb, h.ra, fun g hg hm => h.sep g hg ⟨hm.2, hm.1⟩, h.bl⟩
/-- Two wheels, and the memory that neither has. -/
def SK (w0 w : World) (fr : Nat → Prop) (a am b bm : Nat) (sa sb : St) : Prop := ∃ ca cb, Two w0 w ca cb a am b bm sa sb ∧ ∀ g, fr g ↔ free ca cb a am b bm g
theorem SK.swap {w0 w : World} {fr : Nat → Prop} {a am b bm : Nat} {sa sb : St} (h : SK w0 w fr a am b bm sa sb) : SK w0 w fr b bm a am sb sa := by
  obtain ⟨ca, cb, h, hf⟩ := h
  exact ⟨cb, ca, h.swap, fun g => (hf g).trans ⟨fun ⟨p, q⟩ => ⟨q, p⟩, fun ⟨p, q⟩ => ⟨q, p⟩⟩⟩
theorem sk_of {w0 w w' : World} {ca ca' cb : Nat → Nat} {a am b bm : Nat} {sa sa' sb : St} {fr : Nat → Prop} (h : Two w0 w ca cb a am b bm sa sb) (hfr : ∀ g, fr g ↔ free ca cb a am b bm g) (hw : WI w' w0.heap.size ca' a am sa') (hr : ∃ L, Rel sa' L ∧ Sm L) (hf : Fr w w' w0.heap.size ca ca' a am) :
    ∃ fr', SK w0 w' fr' a am b bm sa' sb ∧ Kp w w' fr fr' ∧ ∀ (v : Value) (xs : List S38), k38.R 38 w' w.heap.size (fun g => ca' g = 203) v xs → k38.R 38 w' 0 fr' v xs := by
  obtain ⟨q1, q2, q3⟩ := two_left h hw hr hf
  refine ⟨_, ⟨_, _, q1, fun g => Iff.rfl⟩, ⟨q2.1, fun g hg hx => q2.2 g hg ((hfr g).1 hx)⟩, ?_⟩
  intro v xs hR
  refine Kd.R_lower (base := w.heap.size) (Kd.R_mono (Kd.R_bound hR) ?_) (Nat.zero_le _)
  rintro g ⟨hc, hge, _⟩
  exact q3 g hge (by omega)
theorem sk_all {w0 w : World} {fr : Nat → Prop} {a am b bm : Nat} {sa sb : St} {L : List Tm} (h : SK w0 w fr a am b bm sa sb) (hr : Rel sa L) (hL : Sm L) :
    Calls Try.prog 13 #[.pointer (some ⟨a, 0, none⟩)] w fun e w' => ∃ v fr', e = .returned v ∧ SK w0 w' fr' a am b bm sa sb ∧ Kp w w' fr fr' ∧ k38.R 38 w' 0 fr' v (L.map ofT) := by
  obtain ⟨ca, cb, h, hf⟩ := h
  refine (all_calls h.wa hr hL).mono ?_
  rintro e w' ⟨v, ca', rfl, r1, r2, r3⟩
  obtain ⟨fr', p1, p2, p3⟩ := sk_of h hf r2 ⟨L, hr, hL⟩ r3
  exact ⟨v, fr', rfl, p1, p2, p3 v _ r1⟩
theorem sk_skip {w0 w : World} {fr : Nat → Prop} {a am b bm : Nat} {sa sb : St} (h : SK w0 w fr a am b bm sa sb) (n : Nat) (hn : n ≤ 100000) :
    Calls Try.prog 16 #[.pointer (some ⟨a, 0, none⟩), .int .i64 n] w fun e w' => ∃ v fr', e = .returned (.tuple #[v, .int .i64 0]) ∧ SK w0 w' fr' a am b bm (skipS n sa) sb ∧ Kp w w' fr fr' ∧ k38.R 38 w' 0 fr' v ((skipO n sa).map ofT) := by
  obtain ⟨ca, cb, h, hf⟩ := h
  obtain ⟨L, hr, hL⟩ := h.ra
  refine (skip_calls h.wa hr hL n hn).mono ?_
  rintro e w' ⟨v, ca', rfl, r1, r2, r3⟩
  obtain ⟨q1, _, _⟩ := rel_skip n hr
  obtain ⟨fr', p1, p2, p3⟩ := sk_of h hf r2 ⟨_, q1, by rw [List.length_drop]; have := hL.1; omega, fun t ht => hL.2 t (List.mem_of_mem_drop ht)⟩ r3
  exact ⟨v, fr', rfl, p1, p2, p3 v _ r1⟩
theorem sk_grow {w0 w w' : World} {fr : Nat → Prop} {a am b bm : Nat} {sa sb : St} (h : SK w0 w fr a am b bm sa sb) (hb : Below w.heap.size w w') : ∃ fr', SK w0 w' fr' a am b bm sa sb ∧ Kp w w' fr fr' ∧ ∀ g, w.heap.size ≤ g → fr' g := by
  obtain ⟨ca, cb, h, hf⟩ := h
  obtain ⟨D, cs, hw⟩ := h.wa
  obtain ⟨g1, g2⟩ := hw.grow hb 202
  obtain ⟨q1, q2, q3⟩ := two_left h g1.wi h.ra g2
  exact ⟨_, ⟨_, _, q1, fun g => Iff.rfl⟩, ⟨q2.1, fun g hg hx => q2.2 g hg ((hf g).1 hx)⟩, fun g hg => q3 g hg (by rw [newCol_ge (by omega)]; decide)⟩
theorem sk_now {w0 w : World} {fr : Nat → Prop} {a am b bm : Nat} {sa sb : St} (h : SK w0 w fr a am b bm sa sb) :
    Calls Try.prog 11 #[.pointer (some ⟨a, 0, none⟩)] w fun e w' => e = .returned (.int .i64 sa.now) ∧ w' = w := by
  obtain ⟨ca, cb, h, hf⟩ := h
  obtain ⟨D, cs, hw⟩ := h.wa
  exact now_calls hw
end Go.Proofs.Ytcknocglaimcpaa.WA

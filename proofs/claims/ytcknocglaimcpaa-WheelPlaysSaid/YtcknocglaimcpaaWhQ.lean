/- Drop, where the timer is there. -/
import Derived.Test.YtcknocglaimcpaaWhP
namespace Go.Proofs.Ytcknocglaimcpaa.WA
open Go.RowKit Go.Proofs.YtcknocglaimcpaaW.PrintWords Go.Proofs.YtcknocglaimcpaaW.PrintLast Go.Proofs.YtcknocglaimcpaaW.PrintMore
open Go.Proofs.Ytcknocglaimcpaa.PW Go.Proofs.Ytcknocglaimcpaa.Wh Go.Maps
set_option linter.unusedVariables false
set_option linter.unusedSimpArgs false
set_option maxHeartbeats 8000000
set_option maxRecDepth 100000
theorem key_ne {k key : ByteArray} {kl kl' : Lit} (h : keyOf Try.prog 9 (.string key) = some kl) (h' : keyOf Try.prog 9 (.string k) = some kl') : kl' = kl ↔ k = key := by
  constructor
  · rintro rfl
    have := keyLaw.inj h' h
    injection this
  · rintro rfl
    rw [h] at h'
    exact (Option.some.inj h').symm
theorem due_del {D : DataW Unit} {due : ByteArray → Option Int} {cnt : Nat} (h : dueIs D due cnt) (hT : Tidy D) {key : ByteArray} {kl : Lit} (hkey : keyOf Try.prog 9 (.string key) = some kl) (hd : (due key).isSome = true) :
    dueIs (D.del kl) (fun k => if k = key then none else due k) (cnt - 1) := by
  refine ⟨?_, ?_⟩
  · have := size_del (k := kl) hT
    rw [((h.2 key kl hkey).1.1), hd] at this
    have h1 := h.1
    simp at this
    omega
  · intro k kl' hk
    by_cases e : k = key
    · obtain rfl := (key_ne hkey hk).2 e
      simp only [if_pos e]
      exact ⟨⟨by rw [has_del_same]; rfl, fun a ha => by cases ha⟩, fun _ => atKey_del_same _⟩
    · have hne : kl' ≠ kl := fun e' => e ((key_ne hkey hk).1 e')
      simp only [if_neg e]
      rw [has_del_other hne, atKey_del_other hne]
      exact h.2 k kl' hk
theorem due_put {D : DataW Unit} {due : ByteArray → Option Int} {cnt : Nat} (h : dueIs D due cnt) (hT : Tidy D) {key : ByteArray} {kl : Lit} (hkey : keyOf Try.prog 9 (.string key) = some kl) (hd : due key = none) (a : Int) :
    dueIs (D.put kl (.lit (.int .i64 a))) (fun k => if k = key then some a else due k) (cnt + 1) := by
  refine ⟨?_, ?_⟩
  · rw [size_put hT, (h.2 key kl hkey).1.1, hd]
    have h1 := h.1
    simp [h1]
  · intro k kl' hk
    by_cases e : k = key
    · obtain rfl := (key_ne hkey hk).2 e
      simp only [if_pos e]
      exact ⟨⟨by rw [has_put_same hT.isMap (keyLaw.key hkey)]; rfl, fun a ha => by rw [atKey_put_same hT.isMap (keyLaw.key hkey), Option.some.inj ha]⟩, fun h => by cases h⟩
    · have hne : kl' ≠ kl := fun e' => e ((key_ne hkey hk).1 e')
      simp only [if_neg e]
      rw [has_put_other hne, atKey_put_other hne]
      exact h.2 k kl' hk
/-- Drop, so many slots gone through. -/
def mid (st : St) (key : ByteArray) (a : Int) (q : Nat) : St :=
  { st with due := fun k => if k = key then none else st.due k, cnt := st.cnt - 1, slot := fun l k => if l * 32 + k < q then (st.slot l k).filter (fun t => !decide (t = (key, a))) else st.slot l k }
theorem filter_ofT (key : ByteArray) (a : Int) (l : List Tm) : (l.map ofT).filter (fun x => !isT ⟨key, a⟩ x) = (l.filter (fun t => !decide (t = (key, a)))).map ofT := by
  rw [List.filter_map]
  congr 1
  apply List.filter_congr
  rintro ⟨k, b⟩ _
  by_cases h1 : k = key <;> by_cases h2 : b = a <;> simp [isT, ofT, h1, h2]
theorem mid_slot (st : St) (key : ByteArray) (a : Int) (l k : Nat) (hl : l < 6) (hk : k < 32) : ∀ i j, i < 6 → j < 32 → (mid st key a (l * 32 + k + 1)).slot i j = upd (mid st key a (l * 32 + k)).slot l k ((st.slot l k).filter (fun t => !decide (t = (key, a)))) i j := by
  intro i j hi hj
  by_cases e : i = l ∧ j = k
  · obtain ⟨rfl, rfl⟩ := e
    rw [upd_same]
    exact if_pos (by omega)
  · rw [upd_other _ _ _ _ e]
    show (if i * 32 + j < l * 32 + k + 1 then _ else _) = (if i * 32 + j < l * 32 + k then _ else _)
    by_cases h : i * 32 + j < l * 32 + k
    · rw [if_pos h, if_pos (by omega)]
    · rw [if_neg h, if_neg (by omega)]
theorem drop_yes {w : World} {base : Nat} {col : Nat → Nat} {b bm n : Nat} {D : DataW Unit} {cs : Array Value} {st : St} (h : WAt w base col b bm n D cs st) (key : ByteArray) (a : Int) {kl : Lit} (hkey : keyOf Try.prog 9 (.string key) = some kl) (hd : st.due key = some a)
    (hlen : ∀ l k, l < 6 → k < 32 → (st.slot l k).length ≤ 1000000) :
    Calls Try.prog 20 #[.pointer (some ⟨b, 0, none⟩), .string key] w fun e w' => e = .returned (.bool true) ∧ ∃ col' D' cs', WAt w' base col' b bm n D' cs' (dropS st key) ∧ Fr w w' base col col' b bm := by
  have hu := Try.underlying62
  have hu38 := Try.underlying38
  have hu60 := Try.underlying60
  have hu59 := Try.underlying59
  have hz59 : ∀ w, (sizeOf 59).run Try.prog w = .ok 32 w := fun w => by kernel_rfl
  have hz35 : ∀ w, (sizeOf 35).run Try.prog w = .ok 1 w := fun w => by kernel_rfl
  have hn := none_at w b true (h.cell h.c0)
  have c2 := h.cell h.c2
  have HO := Aside0.mk h.mp
  have HK := Aside0.mk hkey
  have hh : Maps.has D kl = true := by rw [(h.du.2 key kl hkey).1.1, hd]; rfl
  have HA := Aside0.mk ((h.du.2 key kl hkey).1.2 a hd)
  have HDu := Aside0.mk (due_del h.du (h.mp.tidy keyLaw) hkey (by rw [hd]; rfl))
  have HW := Aside0.mk h
  have HL := Aside0.mk hlen
  have HD := Aside0.mk hd
  clear hkey h hd hlen
  go_enter Try.func20, Try.ntmps20
  go_wp2_with (first | (go_at_call 26; refine hn.mono ?_; rintro e w' ⟨rfl, rfl⟩) | (at_lookup; refine wpList_lookup_own_ok_int _ rfl _ _ 58 rfl 9 3 .i64 keyLaw Try.underlying58 Try.underlying3 (zeroE _) bm n D rfl HO.out _ kl rfl HK.out ?_; intro c hat hwc; rw [hh]; obtain rfl : c = a := (by rw [HA.out] at hat; injection hat with hat; injection hat with _ hat; exact hat.symm); clear hat hwc) | (at_delete; refine wpList_delete_own _ rfl _ _ 58 9 rfl 3 keyLaw Try.underlying58 _ bm n D rfl HO.out _ kl rfl HK.out ?_; intro w1 hown1 hturn1; have N1 := Aside0.mk (And.intro hown1 hturn1); clear hown1 hturn1))
  have HT0 : Aside0 (WAt (w1.alloc (.cells #[.string key, .int .i64 c] 38)) base (newCol w1 (newCol w' col 202) 202) b bm n (D.del kl) cs (mid st key c 0) ∧ Fr w' (w1.alloc (.cells #[.string key, .int .i64 c] 38)) base col (newCol w1 (newCol w' col 202) 202) b bm ∧ (w1.alloc (.cells #[.string key, .int .i64 c] 38)).heap[w1.heap.size]? = some (.cells #[.string key, .int .i64 c] 38 (0, 0)) ∧ newCol w1 (newCol w' col 202) 202 w1.heap.size = 202) := ⟨by
    obtain ⟨m1, m2⟩ := HW.out.map N1.out.2.grown N1.out.1 _ _ HDu.out
    obtain ⟨g1, g2⟩ := m1.grow (below_alloc (Below.refl _ w1) (.cells #[.string key, .int .i64 c] 38)) 202
    exact ⟨g1.congr rfl rfl rfl (fun l k _ _ => by simp only [mid]; exact if_neg (by omega)), m2.trans g2, blk_new _ _, newCol_ge (by omega)⟩⟩
  generalize hWT : w1.alloc (.cells #[.string key, .int .i64 c] 38) = wt at HT0 ⊢
  clear hWT
  generalize hTB : w1.heap.size = tb at HT0 ⊢
  generalize newCol w1 (newCol w' col 202) 202 = col0 at HT0
  clear hTB N1 hn c2 HO hh HA HDu HW
  go_loopg [31] 6 (fun kq v31 w2 => ∃ (i : Nat) (colr : Nat → Nat) (csr : Array Value), v31 = .int .i64 i ∧ Aside0 (i + kq = 6) ∧ Aside0 (WAt w2 base colr b bm n (D.del kl) csr (mid st key c (i * 32)) ∧ Fr w' w2 base col colr b bm ∧ w2.heap[tb]? = some (.cells #[.string key, .int .i64 c] 38 (0, 0)) ∧ colr tb = 202))
  case atStart => exact ⟨0, _, _, rfl, ⟨rfl⟩, HT0⟩
  case round =>
    obtain ⟨i, colr, csr, rfl, HI, HS⟩ := hrel
    by_cases hi : (i : Int) < 6
    case neg =>
      have hib : decide ((i : Int) < 6) = false := decide_eq_false hi
      have hi6 : i = 6 := by have := HI.out; omega
      subst hi6
      go_wp2
      go_ret
      refine ⟨rfl, colr, ⟨_, _, HS.out.1.congr ?_ ?_ ?_ ?_⟩, HS.out.2.1⟩
      all_goals have hd2 := HD.out
      · simp only [dropS, hd2, mid]
      · simp only [dropS, hd2, mid]
      · simp only [dropS, hd2, mid]
      · intro l k hl hk
        simp only [dropS, hd2, mid]
        rw [if_pos (by omega)]
    have hib : decide ((i : Int) < 6) = true := decide_eq_true hi
    go_wp2
    go_loopg [34] 32 (fun kq v34 w2 => ∃ (k : Nat) (colr : Nat → Nat) (csr : Array Value), v34 = .int .i64 k ∧ Aside0 (k + kq = 32) ∧ Aside0 (WAt w2 base colr b bm n (D.del kl) csr (mid st key c (i * 32 + k)) ∧ Fr w' w2 base col colr b bm ∧ w2.heap[tb]? = some (.cells #[.string key, .int .i64 c] 38 (0, 0)) ∧ colr tb = 202))
    case atStart => exact ⟨0, _, _, rfl, ⟨rfl⟩, HS⟩
    case round =>
      clear HS
      obtain ⟨k, colr, csr, rfl, HI2, HS⟩ := hrel
      by_cases hk : (k : Int) < 32
      case neg =>
        have hkb : decide ((k : Int) < 32) = false := decide_eq_false hk
        have hk32 : k = 32 := by have := HI2.out; omega
        subst hk32
        have E6 : Aside0 (wrap64 ((i : Int) + 1) = ((i + 1 : Nat) : Int)) := ⟨by rw [wrap64_is (by omega) (by omega)]; omega⟩
        go_wp2
        go_roundg (6 - i - 1)
        case measure => have := HI.out; omega
        case rel => exact ⟨i + 1, colr, csr, by first | rw [E6.out] | rfl, ⟨by have := HI.out; omega⟩, ⟨by rw [show (i + 1) * 32 = i * 32 + 32 by omega]; exact HS.out⟩⟩
      have hkb : decide ((k : Int) < 32) = true := decide_eq_true hk
      have hi6 : i < 6 := by omega
      have hk6 : k < 32 := by omega
      have E6 : Aside0 (wrap64 ((k : Int) + 1) = ((k + 1 : Nat) : Int)) := ⟨by rw [wrap64_is (by omega) (by omega)]; omega⟩
      obtain ⟨v, hv, hR⟩ := HS.out.1.sl i k hi6 hk6
      have hmk : (mid st key c (i * 32 + k)).slot i k = st.slot i k := if_neg (by omega)
      rw [hmk] at hR
      have hcv := HS.out.1.cell hv
      have hfv := HS.out.1.frozen (3 + i * 32 + k)
      have HV := Aside0.mk (And.intro hcv hR)
      have hcall : ∀ m, Calls Try.prog 30 #[v, .func (.func 31) #[] #[.pointer (some ⟨tb, 0, none⟩)]] (wr.drewN m) fun e w2 => ∃ v', e = .returned v' ∧ k38.R 38 w2 base (fun g => colr g = i * 32 + k ∨ wr.heap.size ≤ g) v' (((st.slot i k).filter (fun t => !decide (t = (key, c)))).map ofT) ∧ (wr.drewN m).grownBy w2 v.ownBlock := fun m => by
        rw [← filter_ofT]
        refine delete_calls (wr.drewN m) base (fun g => colr g = i * 32 + k ∨ wr.heap.size ≤ g) v ((st.slot i k).map ofT) ⟨key, c⟩ tb (Kd.R_mono hR (fun g hg => .inl hg)) (by rw [List.length_map]; exact HL.out i k hi6 hk6) ?_ ((blk_cell HS.out.2.2.1 0).trans rfl) ((blk_cell HS.out.2.2.1 1).trans rfl)
        have h1 : tb < wr.heap.size := (Array.getElem?_eq_some_iff.1 HS.out.2.2.1).1
        have h2 := HS.out.2.2.2
        rintro (e | e) <;> omega
      clear hv hR hmk hfv hcv
      have hcv := HV.out.1
      have H8 : Aside0 (∀ m w3, (wr.drewN m).grownBy w3 v.ownBlock → w3.cell? ⟨b, 3 + i * 32 + k, none⟩ = some v ∧ w3.frozen? ⟨b, 3 + i * 32 + k, none⟩ = false) := ⟨by
        intro m w3 hg
        have hb3 : w3.heap[b]? = wr.heap[b]? := hg.block b HS.out.1.blt (fun e => by have : colr b = i * 32 + k := HV.out.2.1 b e.symm; rw [HS.out.1.cb] at this; omega)
        exact ⟨(cell_blk hb3 _).trans HV.out.1, (frozen_blk hb3 _).trans (HS.out.1.frozen _)⟩⟩
      go_wp2
      go_region_with (first | (go_at_call 30; refine (hcall _).mono ?_; rintro e w3 ⟨v', rfl, h1, h2⟩; obtain ⟨A1, C1, e1_⟩ := Kd.R_slice h1; subst e1_; obtain ⟨h3, h4⟩ := H8.out _ w3 h2; have N3 := Aside0.mk (And.intro h1 h2); clear h1 h2))
      all_goals
        go_wp2
        go_roundg (32 - k - 1)
        case measure => have := HI2.out; omega
        case rel =>
          obtain ⟨h1, h2⟩ := N3.out
          have hB3 : Below base wr w3 := ⟨h2.os, h2.tape, h2.output, h2.size, fun g hg => h2.block g (Nat.lt_of_lt_of_le hg HS.out.1.base_le) (fun e => by
            have := ((Kd.R_bound HV.out.2).1 g e.symm).2.1; omega)⟩
          obtain ⟨s1, s2⟩ := HS.out.1.slot i k hi6 hk6 _ ((st.slot i k).filter (fun t => !decide (t = (key, c)))) h1 hB3 (fun g hg hne => h2.block g hg (fun e => hne (HV.out.2.1 g e.symm)))
          rw [List.length_map] at s1 s2
          have hlt : tb < wr.heap.size := (Array.getElem?_eq_some_iff.1 HS.out.2.2.1).1
          refine ⟨k + 1, _, _, by first | rw [E6.out] | (push_cast; rfl), ⟨by have := HI2.out; omega⟩, ⟨WAt.congr (st' := mid st key c (i * 32 + (k + 1))) s1 rfl rfl rfl (fun i' j' hi' hj' => mid_slot st key c i k hi6 hk6 i' j' hi' hj'), HS.out.2.1.trans s2, ?_, (newCol_lt hlt).trans HS.out.2.2.2⟩⟩
          exact (s2.sa tb hlt (by rw [HS.out.2.2.2]; decide) (fun e => by have := HS.out.2.2.2; rw [e, HS.out.1.cb] at this; omega) (fun e => by have := HS.out.2.2.2; rw [e, HS.out.1.cm] at this; omega)).trans HS.out.2.2.1
end Go.Proofs.Ytcknocglaimcpaa.WA

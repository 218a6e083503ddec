/- WheelDue: the walk. -/
import Derived.Test.YtcknocglaimcpaaWhZg
namespace Go.Proofs.Ytcknocglaimcpaa.WA
open Go.RowKit Go.Proofs.YtcknocglaimcpaaW.PrintWords Go.Proofs.YtcknocglaimcpaaW.PrintLast Go.Proofs.YtcknocglaimcpaaW.PrintMore
open Go.Proofs.Ytcknocglaimcpaa.PW Go.Proofs.Ytcknocglaimcpaa.Wh Go.Maps
attribute [local go_sem] max2_int min2_int max_two min_two
set_option linter.unusedVariables false
set_option linter.unusedSimpArgs false
set_option maxHeartbeats 8000000
set_option maxRecDepth 100000
/-- The wheel, with the rows of keys and times. -/
structure DU (w0 w : World) (col : Nat → Nat) (b bm : Nat) (st : St) (vk va : Value) (ks : List ByteArray) (az : List Int) : Prop where
  wi : WI w w0.heap.size col b bm st
  bl : Below w0.heap.size w0 w
  old : ∀ g, g < w0.heap.size → col g = 202
  rk : Kd.string.R 9 w w0.heap.size (fun g => col g = 210) vk ks
  ra : (Kd.int .i64).R 3 w w0.heap.size (fun g => col g = 211) va az
theorem DU.drewN {w0 w : World} {col : Nat → Nat} {b bm : Nat} {st : St} {vk va : Value} {ks : List ByteArray} {az : List Int} (h : DU w0 w col b bm st vk va ks az) (m : Nat) : DU w0 (w.drewN m) col b bm st vk va ks az := by
  obtain ⟨⟨D, cs, h1⟩, h2, h3, h4, h5⟩ := h
  exact ⟨(h1.stay (w1 := w.drewN m) (Nat.le_refl _) (fun _ _ _ => rfl) (fun _ _ => rfl)).wi, below_trans h2 (pw_below_drewN (Below.refl _ _) _), h3, Kd.R_step h4 (fun _ _ _ => rfl), Kd.R_step h5 (fun _ _ _ => rfl)⟩
theorem DU.fr {w0 w w' : World} {col col' : Nat → Nat} {b bm : Nat} {st st' : St} {vk va : Value} {ks : List ByteArray} {az : List Int} (h : DU w0 w col b bm st vk va ks az) (hw : WI w' w0.heap.size col' b bm st') (hf : Fr w w' w0.heap.size col col' b bm) : DU w0 w' col' b bm st' vk va ks az :=
  ⟨hw, below_trans h.bl hf.bl, fun g hg => (hf.co g (Nat.lt_of_lt_of_le hg h.bl.size) (by rw [h.old g hg]; decide)).trans (h.old g hg), row_fr (by decide) h.wi hf h.rk, row_fr (by decide) h.wi hf h.ra⟩
/-- The row of keys is longer. -/
theorem DU.keys {w0 w w1 : World} {col : Nat → Nat} {b bm : Nat} {st : St} {vk va vk1 : Value} {ks ks1 : List ByteArray} {az : List Int} (h : DU w0 w col b bm st vk va ks az) (hR : Kd.string.R 9 w1 w0.heap.size (fun g => col g = 210 ∨ w.heap.size ≤ g) vk1 ks1) (hg : w.grownBy w1 vk.ownBlock) : DU w0 w1 (newCol w col 210) b bm st vk1 va ks1 az :=
  ⟨wi_row (by decide) h.wi hg (fun g e => (row_own h.rk g e).1), below_trans h.bl (wi_below hg (fun g e => (row_own h.rk g e).2) h.bl.size), fun g hgl => (newCol_lt (Nat.lt_of_lt_of_le hgl h.bl.size)).trans (h.old g hgl), row_new hR, row_row (by decide) hg (fun g e => (row_own h.rk g e).1) h.ra⟩
/-- The row of times turns. -/
theorem DU.ats {w0 w w1 : World} {col : Nat → Nat} {b bm : Nat} {st : St} {vk va va1 : Value} {ks : List ByteArray} {az az1 : List Int} (h : DU w0 w col b bm st vk va ks az) (hR : (Kd.int .i64).R 3 w1 w0.heap.size (fun g => col g = 211 ∨ w.heap.size ≤ g) va1 az1) (hg : w.grownBy w1 va.ownBlock) : DU w0 w1 (newCol w col 211) b bm st vk va1 ks az1 :=
  ⟨wi_row (by decide) h.wi hg (fun g e => (row_own h.ra g e).1), below_trans h.bl (wi_below hg (fun g e => (row_own h.ra g e).2) h.bl.size), fun g hgl => (newCol_lt (Nat.lt_of_lt_of_le hgl h.bl.size)).trans (h.old g hgl), row_row (by decide) hg (fun g e => (row_own h.ra g e).1) h.rk, row_new hR⟩
/-- Only new memory. -/
theorem DU.grow {w0 w w1 : World} {col : Nat → Nat} {b bm : Nat} {st : St} {vk va : Value} {ks : List ByteArray} {az : List Int} (h : DU w0 w col b bm st vk va ks az) (hb : Below w.heap.size w w1) : ∃ col1, DU w0 w1 col1 b bm st vk va ks az := by
  obtain ⟨D, cs, hw⟩ := h.wi
  obtain ⟨g1, g2⟩ := hw.grow hb 202
  exact ⟨_, h.fr g1.wi g2⟩
theorem setS_no {st : St} {k : ByteArray} {a : Int} (h : setE st k a ≠ 0) : setS st k a = st := by unfold setS; rw [if_neg (fun e => h e.1)]
theorem du_set {w0 w : World} {col : Nat → Nat} {b bm : Nat} {st : St} {vk va : Value} {ks : List ByteArray} {az : List Int} {L Z : List Tm} {last : Int} (h : DU w0 w col b bm st vk va ks az) (hd : DI st L Z last) (hL : L.length ≤ 300) (k : ByteArray) (a : Int) (hk : k.size ≤ 1000) :
    Calls Try.prog 10 #[.pointer (some ⟨b, 0, none⟩), .string k, .int .i64 a] w fun e w' => e = .returned (.int .i64 (setE st k a)) ∧ ∃ col', DU w0 w' col' b bm (setS st k a) vk va ks az := by
  obtain ⟨kl, hkl⟩ := key_of hk
  refine (set_calls h.wi k a hkl hd.rel.lo (by rw [hd.rel.ct]; omega) (flat_few (rel_len hd.rel (by omega)))).mono ?_
  rintro e w' ⟨rfl, col', q1, q2⟩
  exact ⟨rfl, col', h.fr q1 q2⟩
theorem at_key {w : World} {B : Nat} {ok : Nat → Prop} {v : Value} {ks : List ByteArray} (h : Kd.string.R 9 w B ok v ks) (i : Nat) (hi : i < ks.length) : ∃ g c, v = .slice (some ⟨g, 0, none⟩) ks.length c ∧ w.cell? ⟨g, i, none⟩ = some (.string ks[i]) := by
  obtain ⟨g, c, rfl, _, _, _⟩ := Kd.R_form h (by omega)
  obtain ⟨ad, cc, hA, h1, h2, h3⟩ := Kd.C_get (Kd.R_reads' h).2.2 (⟨#[]⟩ : ByteArray) (i : Int) (by omega) (by omega)
  obtain rfl := (Option.some.inj hA).symm
  have h2 : cc = [.string (ks.getD ((i : Int).toNat) ⟨#[]⟩)] := h2
  have h4 := h3 0 _ (by rw [h2]; rfl)
  rw [Int.toNat_natCast] at h4
  have e : (i * Kd.string.sz + 0) = i := by show i * 1 + 0 = i; omega
  rw [e, add_z] at h4
  refine ⟨g, c, rfl, ?_⟩
  rw [h4, List.getD_eq_getElem?_getD, List.getElem?_eq_getElem hi]
  rfl
theorem at_int {w : World} {B : Nat} {ok : Nat → Prop} {v : Value} {az : List Int} (h : (Kd.int .i64).R 3 w B ok v az) (i : Nat) (hi : i < az.length) : ∃ g c, v = .slice (some ⟨g, 0, none⟩) az.length c ∧ w.cell? ⟨g, i, none⟩ = some (.int .i64 az[i]) ∧ w.frozen? ⟨g, i, none⟩ = false := by
  obtain ⟨g, c, rfl, _, _, cells, hcb⟩ := Kd.R_form h (by omega)
  obtain ⟨ad, cc, hA, h1, h2, h3⟩ := Kd.C_get (Kd.R_reads' h).2.2 (0 : Int) (i : Int) (by omega) (by omega)
  obtain rfl := (Option.some.inj hA).symm
  have h2 : cc = [.int .i64 (az.getD ((i : Int).toNat) 0)] := h2
  have h4 := h3 0 _ (by rw [h2]; rfl)
  rw [Int.toNat_natCast] at h4
  have e : (i * (Kd.int .i64).sz + 0) = i := by show i * 1 + 0 = i; omega
  rw [e, add_z] at h4
  refine ⟨g, c, rfl, ?_, blk_frozen hcb _⟩
  rw [h4, List.getD_eq_getElem?_getD, List.getElem?_eq_getElem hi]
  rfl
theorem set_int {w : World} {B g c : Nat} {ok : Nat → Prop} {az : List Int} (h : (Kd.int .i64).R 3 w B ok (.slice (some ⟨g, 0, none⟩) az.length c) az) (i : Nat) (hi : i < az.length) (a : Int) : (Kd.int .i64).R 3 (w.setCell ⟨g, i, none⟩ (.int .i64 a)) B ok (.slice (some ⟨g, 0, none⟩) az.length c) (az.set i a) ∧ w.grownBy (w.setCell ⟨g, i, none⟩ (.int .i64 a)) (some g) := by
  obtain ⟨g', c', e, h4, _⟩ := at_int h i hi
  obtain ⟨rfl, rfl⟩ : g = g' ∧ c = c' := by injection e with e1 _ e2; injection e1 with e1; injection e1 with e1; exact ⟨e1, e2⟩
  have hcc : ∀ (m : Nat) (u : Value), [Value.int .i64 az[i]][m]? = some u → w.cell? ⟨g, ((i : Nat) : Int).toNat * (Kd.int .i64).sz + m, none⟩ = some u := by
    intro m u hm
    match m with
    | 0 =>
      simp at hm
      subst hm
      have e : ((i : Nat) : Int).toNat * (Kd.int .i64).sz + 0 = i := by rw [Int.toNat_natCast]; show i * 1 + 0 = i; omega
      rw [e]
      exact h4
    | m + 1 => simp at hm
  have h5 := Kd.R_seg h ((i : Nat) : Int) (by omega) (by omega) (c := [.int .i64 az[i]]) (seg := [.int .i64 a]) (j := 0) rfl hcc (Nat.le_refl 1) (x' := a) (okp := fun _ => False) rfl (fun _ hk => hk.elim)
  have e : ((i : Nat) : Int).toNat * (Kd.int .i64).sz + 0 = i := by rw [Int.toNat_natCast]; show i * 1 + 0 = i; omega
  rw [e, Int.toNat_natCast] at h5
  exact h5
def Zj (k : ByteArray) (a : Int) (Z : List Tm) (j : Nat) : List Tm := (Z.take j).map (upd1 k a) ++ Z.drop j
theorem Zj_len (k : ByteArray) (a : Int) (Z : List Tm) (j : Nat) : (Zj k a Z j).length = Z.length := by
  unfold Zj
  rw [List.length_append, List.length_map, List.length_take, List.length_drop]
  omega
theorem Zj_next (k : ByteArray) (a : Int) (Z : List Tm) (j : Nat) (hj : j < Z.length) : Zj k a Z (j + 1) = (Zj k a Z j).set j (upd1 k a Z[j]) := by
  have hl : ((Z.take j).map (upd1 k a)).length = j := by rw [List.length_map, List.length_take]; omega
  unfold Zj
  rw [List.take_succ_eq_append_getElem hj, List.map_append, List.set_append_right _ _ (by rw [hl]; exact Nat.le_refl _), hl, Nat.sub_self, List.drop_eq_getElem_cons hj, List.append_assoc]
  rfl
theorem Zj_get (k : ByteArray) (a : Int) (Z : List Tm) (j : Nat) (hj : j < Z.length) : (Zj k a Z j)[j]'(by rw [Zj_len]; exact hj) = Z[j] := by
  have hl : ((Z.take j).map (upd1 k a)).length = j := by rw [List.length_map, List.length_take]; omega
  unfold Zj
  rw [List.getElem_append_right (by rw [hl]; exact Nat.le_refl _)]
  simp only [List.getElem_drop, hl, Nat.sub_self, Nat.add_zero]
theorem Zj_eq (k : ByteArray) (a : Int) (Z : List Tm) (j : Nat) (hj : j < Z.length) (he : Z[j].1 = k) : ((Zj k a Z (j + 1)).map (·.2)) = ((Zj k a Z j).map (·.2)).set j a := by
  rw [Zj_next k a Z j hj, List.map_set]
  congr 1
  unfold upd1
  rw [if_pos he]
theorem Zj_ne (k : ByteArray) (a : Int) (Z : List Tm) (j : Nat) (hj : j < Z.length) (he : Z[j].1 ≠ k) : Zj k a Z (j + 1) = Zj k a Z j := by
  rw [Zj_next k a Z j hj]
  unfold upd1
  rw [if_neg he]
  apply List.ext_getElem (by simp)
  intro m h1 h2
  rw [List.getElem_set]
  split
  · next e => subst e; exact (Zj_get k a Z j hj).symm
  · rfl
theorem hasK_next (k : ByteArray) (Z : List Tm) (j : Nat) (hj : j < Z.length) : hasK (Z.take (j + 1)) k = (hasK (Z.take j) k || decide (Z[j].1 = k)) := by
  rw [List.take_succ_eq_append_getElem hj]
  unfold hasK
  rw [List.any_append]
  simp
theorem ba_toList {a b : ByteArray} : a.toList = b.toList ↔ a = b := by
  constructor
  · intro h
    rw [ByteArray.toList_eq, ByteArray.toList_eq] at h
    exact ba_ext h
  · rintro rfl; rfl
def PK (t : Tm) (n1 : Int) (p : Tm) : Bool := decide (p.1 = t.1) && decide (p.2 = n1)
theorem pk_next (t : Tm) (n1 : Int) (Z : List Tm) (j : Nat) (hj : j < Z.length) : (Z.take (j + 1)).any (PK t n1) = ((Z.take j).any (PK t n1) || PK t n1 Z[j]) := by
  rw [List.take_succ_eq_append_getElem hj, List.any_append]
  simp
theorem pk_all {t : Tm} {n1 : Int} {Z : List Tm} (h : t ∈ Z) (h2 : t.2 = n1) : Z.any (PK t n1) = true := by
  rw [List.any_eq_true]
  exact ⟨t, h, by simp [PK, h2]⟩
theorem due_calls (w : World) (now : Int) (A : Option Addr) (c : Nat) (l : List S31) (hC : Kd.C k31 w A l.length l) :
    Calls Try.prog 3 #[.int .i64 now, .slice A l.length c] w fun e w' => e = .returned (.bool true) ∧ Below w.heap.size w w' := by
  have HC := Aside0.mk hC
  have haw := awake_calls w
  clear hC
  obtain ⟨b1, h1⟩ : ∃ b, decide (now < 0) = b := ⟨_, rfl⟩
  obtain ⟨b2, h2⟩ : ∃ b, decide (100000 < now) = b := ⟨_, rfl⟩
  obtain ⟨b3, h3⟩ : ∃ b, decide (100 < l.length) = b := ⟨_, rfl⟩
  have h3i : decide ((100 : Int) < (l.length : Int)) = b3 := by rw [← h3]; exact decide_eq_decide.2 (by omega)
  cases b1 with
  | true =>
    go_enter Try.func3, Try.ntmps3
    go_wp2_with (go_at_call 7; refine haw.mono ?_; rintro e w' ⟨rfl, hb⟩; have HB2 := Aside0.mk hb; clear hb)
    go_ret
    exact ⟨rfl, HB2.out⟩
  | false =>
    cases b2 with
    | true =>
      go_enter Try.func3, Try.ntmps3
      go_wp2_with (go_at_call 7; refine haw.mono ?_; rintro e w' ⟨rfl, hb⟩; have HB2 := Aside0.mk hb; clear hb)
      go_ret
      exact ⟨rfl, HB2.out⟩
    | false =>
      cases b3 with
      | true =>
        go_enter Try.func3, Try.ntmps3
        go_wp2_with (go_at_call 7; refine haw.mono ?_; rintro e w' ⟨rfl, hb⟩; have HB2 := Aside0.mk hb; clear hb)
        go_ret
        exact ⟨rfl, HB2.out⟩
      | false =>
        have h0 : 0 ≤ now := by have := of_decide_eq_false h1; omega
        have h9 : now ≤ 100000 := by have := of_decide_eq_false h2; omega
        have hl1 : l.length ≤ 100 := by have := of_decide_eq_false h3; omega
        have HN := Aside0.mk (And.intro h0 (And.intro h9 hl1))
        have hnew := new_aw w now h0 (by omega)
        clear h0 h9 hl1
        go_enter Try.func3, Try.ntmps3
        go_wp2_with (go_at_call 8; refine hnew.mono ?_; rintro e w1 ⟨b, bm, col, rfl, h⟩; have K1 := Aside0.mk h; clear h)
        go_loopg [7, 8, 9, 10] (l.length) (fun kq v7 v8 v9 v10 w2 => ∃ (i : Nat) (st : St) (L Z : List Tm) (last : Int) (col2 : Nat → Nat), v7 = .int .i64 last ∧ v10 = .int .i64 i ∧ Aside0 (i + kq = l.length) ∧ Aside0 (DU w w2 col2 b bm st v8 v9 (Z.map (·.1)) (Z.map (·.2)) ∧ DI st L Z last ∧ st.now = now ∧ L.length ≤ i ∧ 0 ≤ last ∧ last ≤ now + 40000))
        case atStart =>
          have k := K1.out
          exact ⟨0, newS now, [], [], 0, col, rfl, rfl, ⟨by omega⟩, ⟨⟨k.1, k.2.2.2.2.1, k.2.2.2.2.2, Kd.R_nil _ _ _ _ _, Kd.R_nil _ _ _ _ _⟩, ⟨k.2.1, fun t ht => absurd ht (by simp), fun t => Iff.rfl, List.nodup_nil, fun t ht => absurd ht (by simp)⟩, rfl, Nat.le_refl _, Int.le_refl _, by have := HN.out.1; omega⟩⟩
        case round =>
          obtain ⟨i, st, L, Z, last, col2, rfl, rfl, HI, HS⟩ := hrel
          by_cases hi : i < l.length
          case neg =>
            have hib : decide (i < l.length) = false := decide_eq_false hi
            clear hi
            go_wp2
            have HT0 : Aside0 (DU w wr col2 b bm st u8 u9 (Z.map (·.1)) (Z.map (·.2)) ∧ TI st L Z 0) := ⟨HS.out.1, HS.out.2.1.rel, ⟨by have := HS.out.2.2.2.1; have := HN.out.2.2; have := HI.out; omega, HS.out.2.1.sm⟩, fun t ht => (HS.out.2.1.mem t).1 ht, by have := di_len HS.out.2.1; omega⟩
            have HLA : Aside0 ((∀ t ∈ Z, t.2 ≤ last) ∧ last ≤ 140000 ∧ (Z.map (·.1)).Nodup) := ⟨HS.out.2.1.la, by have := HS.out.2.2.2.2.2; have := HN.out.2.1; omega, HS.out.2.1.nd⟩
            have HST : Aside0 (st.now = now) := ⟨HS.out.2.2.1⟩
            have HZL : Aside0 (Z.length ≤ 300) := ⟨by have := di_len HS.out.2.1; have := HS.out.2.2.2.1; have := HN.out.2.2; have := HI.out; omega⟩
            obtain ⟨A8, c8, hu8⟩ : ∃ A8 c8, u8 = .slice A8 Z.length c8 := by
              obtain ⟨A8, c8, e⟩ := Kd.R_slice HS.out.1.rk
              exact ⟨A8, c8, by rw [e, List.length_map]⟩
            obtain ⟨A9, c9, hu9⟩ : ∃ A9 c9, u9 = .slice A9 Z.length c9 := by
              obtain ⟨A9, c9, e⟩ := Kd.R_slice HS.out.1.ra
              exact ⟨A9, c9, by rw [e, List.length_map]⟩
            subst hu8
            subst hu9
            clear HS HI
            go_loopg [15] ((last - now).toNat) (fun kq v15 w2 => ∃ (st2 : St) (L2 : List Tm) (came : Nat) (col3 : Nat → Nat), v15 = .int .i64 came ∧ Aside0 ((last - st2.now).toNat ≤ kq) ∧ Aside0 (DU w w2 col3 b bm st2 (.slice A8 Z.length c8) (.slice A9 Z.length c9) (Z.map (·.1)) (Z.map (·.2)) ∧ TI st2 L2 Z came))
            case atStart => exact ⟨st, L, 0, col2, rfl, ⟨by rw [HST.out]; omega⟩, HT0⟩
            case round =>
              clear HT0
              obtain ⟨st2, L2, came, col3, rfl, HI, HS⟩ := hrel
              have hnow : Calls Try.prog 11 #[.pointer (some ⟨b, 0, none⟩)] wr fun e w' => e = .returned (.int .i64 st2.now) ∧ w' = wr := by
                obtain ⟨D, cs, h⟩ := HS.out.1.wi
                exact now_calls h
              by_cases hlt : st2.now < last
              case neg =>
                have hltb : decide (st2.now < last) = false := decide_eq_false hlt
                have hL2 : L2 = [] := ti_end HS.out.2 HLA.out.1 (by omega)
                subst hL2
                obtain rfl : came = Z.length := by have := HS.out.2.ct; simpa using this
                have hall := all_calls HS.out.1.wi HS.out.2.rel HS.out.2.sm
                clear hlt
                go_wp2_with (first
                  | (go_at_call 11; refine hnow.mono ?_; rintro e w' ⟨rfl, rfl⟩)
                  | (go_at_call 13; refine hall.mono ?_; rintro e w5 ⟨v5, col5, rfl, r5, q5, f5⟩; obtain ⟨A5, c5, e5⟩ := Kd.R_slice r5; subst e5; have K5 := Aside0.mk (below_trans HS.out.1.bl f5.bl); clear r5 q5 f5)
                  | (go_at_call 7; refine (awake_calls _).mono ?_; rintro e w6 ⟨rfl, hb⟩; have K6 := Aside0.mk hb; clear hb))
                go_ret
                exact ⟨by first | rfl | simp, below_trans K5.out (below_lower K6.out K5.out.size)⟩
              have hltb : decide (st2.now < last) = true := decide_eq_true hlt
              obtain ⟨t1, t2, t3, t4⟩ := ti_tick HS.out.2 (by have := HLA.out.2.1; unfold far; omega)
              have HTK := Aside0.mk (And.intro t1 (And.intro t2 (And.intro t3 t4)))
              have htick := tick_calls HS.out.1.wi HS.out.2.rel HS.out.2.sm
              have HLT := Aside0.mk hlt
              have hnO : (tickO st2).length ≤ Z.length := by have := HTK.out.2.1.ct; omega
              have HNO := Aside0.mk hnO
              have HCA : Aside0 (wrap64 ((came : Int) + ((tickO st2).length : Int)) = ((came + (tickO st2).length : Nat) : Int)) := ⟨by have := HTK.out.2.1.ct; have := HZL.out; rw [wrap64_is (by omega) (by omega)]; omega⟩
              clear hlt t1 t2 t3 t4 hnO
              go_wp2_with (first
                | (go_at_call 11; refine hnow.mono ?_; rintro e w' ⟨rfl, rfl⟩)
                | (go_at_call 12; refine htick.mono ?_; rintro e w5 ⟨v5, col5, rfl, r5, q5, f5⟩; obtain ⟨A5, c5, e5⟩ := Kd.R_slice r5; rw [List.length_map] at e5; subst e5; have K5 := Aside0.mk (And.intro r5 (HS.out.1.fr q5 f5)); clear r5 q5 f5))
              obtain ⟨n1, hn1⟩ : ∃ n1, n1 = st2.now + 1 := ⟨_, rfl⟩
              have hnow1 : ∀ q, Calls Try.prog 11 #[.pointer (some ⟨b, 0, none⟩)] (w5.drewN q) fun e w' => e = .returned (.int .i64 n1) ∧ w' = w5.drewN q := by
                intro q
                obtain ⟨D, cs, h⟩ := (K5.out.2.drewN q).wi
                have := now_calls h
                rw [HTK.out.1, ← hn1] at this
                exact this
              have HN1 := Aside0.mk hn1
              clear hn1
              have HO1 : Aside0 (∀ t ∈ tickO st2, t ∈ Z ∧ t.2 = n1) := ⟨fun t ht => by have h := HTK.out.2.2.1 t ht; exact ⟨h.1, by rw [h.2, HN1.out]⟩⟩
              go_loopg [17] ((tickO st2).length) (fun kq v17 w6 => ∃ (i2 q : Nat), v17 = .int .i64 i2 ∧ Aside0 (i2 + kq = (tickO st2).length) ∧ Aside0 (w6 = w5.drewN q))
              case atStart => exact ⟨0, 0, rfl, ⟨by omega⟩, ⟨rfl⟩⟩
              case round =>
                obtain ⟨i2, q, rfl, HI2, HW⟩ := hrel
                have hwq := HW.out
                subst hwq
                clear HW
                by_cases h2 : i2 < (tickO st2).length
                case neg =>
                  have h2b : decide (i2 < (tickO st2).length) = false := decide_eq_false h2
                  clear h2
                  go_wp2
                  go_roundg ((last - st2.now).toNat - 1)
                  case measure => have := HI.out; have := HLT.out; omega
                  case rel => exact ⟨tickS st2, _, came + (tickO st2).length, col5, by first | rw [HCA.out] | (push_cast; rfl), ⟨by have := HTK.out.1; have := HLT.out; omega⟩, ⟨K5.out.2.drewN q, HTK.out.2.1⟩⟩
                have h2b : decide (i2 < (tickO st2).length) = true := decide_eq_true h2
                obtain ⟨g5, c5', e5, _, _, _⟩ := Kd.R_form K5.out.1 (by rw [List.length_map]; omega)
                rw [List.length_map] at e5
                obtain ⟨rfl, rfl⟩ : A5 = some ⟨g5, 0, none⟩ ∧ c5 = c5' := by injection e5 with a1 a2 a3; exact ⟨a1, a3⟩
                clear e5
                have HC5 : Aside0 (Kd.C k38 w5 (some ⟨g5, 0, none⟩) (tickO st2).length ((tickO st2).map ofT)) := ⟨by have h := (Kd.R_reads' K5.out.1).2.2; rw [List.length_map] at h; exact h⟩
                have hat : ∀ i3 (h3 : i3 < (tickO st2).length), w5.cell? ⟨g5, i3 * 2, none⟩ = some (.string (tickO st2)[i3].1) ∧ w5.cell? ⟨g5, i3 * 2 + 1, none⟩ = some (.int .i64 n1) := by
                  intro i3 h3
                  obtain ⟨ad, hA, x0, x1⟩ := at_T38 HC5.out (i3 : Int) (by omega) (by omega)
                  obtain rfl := (Option.some.inj hA).symm
                  have hrd : rd_T38 ((tickO st2).map ofT) (i3 : Int) = ofT (tickO st2)[i3] := by
                    unfold rd_T38
                    simp [List.getD, h3]
                  rw [hrd, Int.toNat_natCast, add_z] at x0 x1
                  refine ⟨x0, ?_⟩
                  rw [x1]
                  show some (Value.int .i64 (tickO st2)[i3].2) = _
                  rw [(HO1.out _ (List.getElem_mem h3)).2]
                obtain ⟨t, ht⟩ : ∃ t, t = (tickO st2)[i2] := ⟨_, rfl⟩
                obtain ⟨x0, x1⟩ := hat i2 h2
                rw [← ht] at x0
                have HTZ : Aside0 (t ∈ Z ∧ t.2 = n1) := ⟨by rw [ht]; exact HO1.out _ (List.getElem_mem h2)⟩
                have HPREV : Aside0 (∀ m, i2 = m + 1 → ∃ kp : ByteArray, w5.cell? ⟨g5, m * 2, none⟩ = some (.string kp) ∧ Op.bytesLess kp.toList t.1.toList = true) := ⟨by
                  intro m hm
                  subst hm
                  refine ⟨(tickO st2)[m].1, (hat m (by omega)).1, ?_⟩
                  rw [bl_eq, ByteArray.toList_eq, ByteArray.toList_eq, ht]
                  exact so_keys HTK.out.2.2.2 (n := n1) (fun t ht => (HO1.out t ht).2) m h2⟩
                have HI2L := Aside0.mk h2
                have hir2 : (0 : Int) ≤ (i2 : Int) := by omega
                have hil2 : (i2 : Int) < ((tickO st2).length : Int) := by omega
                have hw2 : Aside0 (wrap64 ((i2 : Int) + 1) = ((i2 + 1 : Nat) : Int)) := ⟨by have := HNO.out; have := HZL.out; rw [wrap64_is (by omega) (by omega)]; omega⟩
                clear hat ht h2
                go_wp2
                go_loopg [18, 19] (Z.length) (fun kq v18 v19 w7 => ∃ (j q2 : Nat), v19 = .int .i64 j ∧ v18 = .bool ((Z.take j).any (PK t n1)) ∧ Aside0 (j + kq = Z.length) ∧ Aside0 (w7 = w5.drewN q2))
                case atStart => exact ⟨0, q, rfl, rfl, ⟨by omega⟩, ⟨rfl⟩⟩
                case round =>
                  obtain ⟨j, q2, rfl, rfl, HJ, HW⟩ := hrel
                  have hwq := HW.out
                  subst hwq
                  clear HW
                  by_cases hj : j < Z.length
                  case neg =>
                    have hjb : decide (j < Z.length) = false := decide_eq_false hj
                    have hjZ : j = Z.length := by have := HJ.out; omega
                    subst hjZ
                    rw [List.take_length, pk_all HTZ.out.1 HTZ.out.2]
                    clear hj
                    cases i2 with
                    | zero =>
                      go_wp2
                      go_quiet (fail)
                      go_wp2
                      go_roundg ((tickO st2).length - 0 - 1)
                      case measure => have := HI2.out; have := HI2L.out; omega
                      case rel => exact ⟨0 + 1, _, by first | rw [hw2.out] | (push_cast; rfl), ⟨by have := HI2.out; have := HI2L.out; omega⟩, ⟨rfl⟩⟩
                    | succ m =>
                      obtain ⟨kp, k1, k2⟩ := HPREV.out m rfl
                      have hm1 : (m : Int) < ((tickO st2).length : Int) := by omega
                      have hm2 : (m : Int) + 1 < ((tickO st2).length : Int) := by omega
                      have hm3 : wrap64 ((m : Int) + 1 - 1) = (m : Int) := by have := HNO.out; have := HZL.out; rw [wrap64_is (by omega) (by omega)]; omega
                      have hm4 : wrap64 (m : Int) = (m : Int) := by have := HNO.out; have := HZL.out; rw [wrap64_is (by omega) (by omega)]
                      have hm5 : (0 : Int) ≤ (m : Int) + 1 := by omega
                      have hm6 : ((m : Int) + 1).toNat = m + 1 := by omega
                      go_wp2
                      go_quiet (fail)
                      go_wp2
                      go_roundg ((tickO st2).length - (m + 1) - 1)
                      case measure => have := HI2.out; have := HI2L.out; omega
                      case rel => exact ⟨m + 1 + 1, _, by first | rw [hw2.out] | (have h := hw2.out; push_cast at h ⊢; rw [h]), ⟨by have := HI2.out; have := HI2L.out; omega⟩, ⟨rfl⟩⟩
                  have hjb : decide (j < Z.length) = true := decide_eq_true hj
                  obtain ⟨gk5, ck5, ek5, kk5⟩ := at_key K5.out.2.rk j (by rw [List.length_map]; exact hj)
                  obtain ⟨ga5, ca5, ea5, ka5, _⟩ := at_int K5.out.2.ra j (by rw [List.length_map]; exact hj)
                  rw [List.length_map] at ek5 ea5
                  rw [List.getElem_map] at kk5 ka5
                  obtain ⟨p, hp⟩ : ∃ p, p = Z[j] := ⟨_, rfl⟩
                  rw [← hp] at kk5 ka5
                  have HPK : Aside0 ((Z.take (j + 1)).any (PK t n1) = ((Z.take j).any (PK t n1) || PK t n1 p)) := ⟨by rw [pk_next t n1 Z j hj, hp]⟩
                  obtain ⟨rfl, rfl⟩ : A8 = some ⟨gk5, 0, none⟩ ∧ c8 = ck5 := by injection ek5 with a1 a2 a3; exact ⟨a1, a3⟩
                  obtain ⟨rfl, rfl⟩ : A9 = some ⟨ga5, 0, none⟩ ∧ c9 = ca5 := by injection ea5 with a1 a2 a3; exact ⟨a1, a3⟩
                  have hw3 : Aside0 (wrap64 ((j : Int) + 1) = ((j + 1 : Nat) : Int)) := ⟨by have := HZL.out; rw [wrap64_is (by omega) (by omega)]; omega⟩
                  have HJL := Aside0.mk hj
                  have hjr : (0 : Int) ≤ (j : Int) := by omega
                  have hjl : (j : Int) < (Z.length : Int) := by omega
                  clear ek5 ea5 hp hj
                  cases hmb : (Z.take j).any (PK t n1) with
                  | true =>
                    go_wp2
                    go_quiet (first | (go_at_call 11; refine (hnow1 _).mono ?_; rintro e w3 ⟨rfl, rfl⟩; exact ⟨rfl, _, rfl⟩))
                    go_wp2
                    go_roundg (Z.length - j - 1)
                    case measure => have := HJ.out; have := HJL.out; omega
                    case rel => exact ⟨j + 1, _, by first | rw [hw3.out] | (push_cast; rfl), by rw [HPK.out, hmb]; rfl, ⟨by have := HJ.out; have := HJL.out; omega⟩, ⟨rfl⟩⟩
                  | false =>
                    by_cases hpk : p.1 = t.1
                    · have hkt : p.1.toList = t.1.toList := by rw [hpk]
                      have hkb : (p.1.toList == t.1.toList) = true := beq_iff_eq.2 hkt
                      by_cases hpa : p.2 = n1
                      · have hab : (p.2 == n1) = true := beq_iff_eq.2 hpa
                        have HPT : Aside0 (PK t n1 p = true) := ⟨by simp [PK, hpk, hpa]⟩
                        clear hpk
                        go_wp2
                        go_quiet (first | (go_at_call 11; refine (hnow1 _).mono ?_; rintro e w3 ⟨rfl, rfl⟩; exact ⟨rfl, _, rfl⟩))
                        go_wp2
                        go_roundg (Z.length - j - 1)
                        case measure => have := HJ.out; have := HJL.out; omega
                        case rel => exact ⟨j + 1, _, by first | rw [hw3.out] | (push_cast; rfl), by rw [HPK.out, hmb, HPT.out]; rfl, ⟨by have := HJ.out; have := HJL.out; omega⟩, ⟨rfl⟩⟩
                      · have hab : (p.2 == n1) = false := beq_eq_false_iff_ne.2 hpa
                        have hac : (p.2 = n1) = False := eq_false hpa
                        have HPT : Aside0 (PK t n1 p = false) := ⟨by simp [PK, hpa]⟩
                        clear hpk hpa
                        go_wp2
                        go_quiet (first | (go_at_call 11; refine (hnow1 _).mono ?_; rintro e w3 ⟨rfl, rfl⟩; exact ⟨rfl, _, rfl⟩))
                        go_wp2
                        go_roundg (Z.length - j - 1)
                        case measure => have := HJ.out; have := HJL.out; omega
                        case rel => exact ⟨j + 1, _, by first | rw [hw3.out] | (push_cast; rfl), by rw [HPK.out, hmb, HPT.out]; rfl, ⟨by have := HJ.out; have := HJL.out; omega⟩, ⟨rfl⟩⟩
                    · have hkt : (p.1.toList = t.1.toList) = False := eq_false (fun e => hpk (ba_toList.1 e))
                      have hkb : (p.1.toList == t.1.toList) = false := beq_eq_false_iff_ne.2 (fun e => hpk (ba_toList.1 e))
                      have HPT : Aside0 (PK t n1 p = false) := ⟨by simp [PK, hpk]⟩
                      clear hpk
                      go_wp2
                      go_quiet (first | (go_at_call 11; refine (hnow1 _).mono ?_; rintro e w3 ⟨rfl, rfl⟩; exact ⟨rfl, _, rfl⟩))
                      go_wp2
                      go_roundg (Z.length - j - 1)
                      case measure => have := HJ.out; have := HJL.out; omega
                      case rel => exact ⟨j + 1, _, by first | rw [hw3.out] | (push_cast; rfl), by rw [HPK.out, hmb, HPT.out]; rfl, ⟨by have := HJ.out; have := HJL.out; omega⟩, ⟨rfl⟩⟩
          have hib : decide (i < l.length) = true := decide_eq_true hi
          obtain ⟨ad, hA, c0, c1, c2⟩ := at_T31 (Kd.C_below HC.out HS.out.1.bl) (i : Int) (by omega) (by omega)
          obtain ⟨x, hx⟩ : ∃ x, x = l[i] := ⟨_, rfl⟩
          have hrd : rd_T31 l (i : Int) = x := by
            unfold rd_T31
            rw [hx]
            simp [List.getD, hi]
          rw [hrd, Int.toNat_natCast] at c0 c1 c2
          obtain ⟨lt, hlt⟩ : ∃ lt, lt = laterT now x.f2 := ⟨_, rfl⟩
          have hlat := fun W => later_calls now x.f2 HN.out.1 (by have := HN.out.2.1; omega) W
          rw [← hlt] at hlat
          have HLT := Aside0.mk hlt
          have hw1 : Aside0 (wrap64 ((i : Int) + 1) = ((i + 1 : Nat) : Int)) := ⟨by have := HN.out.2.2; rw [wrap64_is (by omega) (by omega)]; omega⟩
          have hir : (0 : Int) ≤ (i : Int) := by omega
          have hil : (i : Int) < (l.length : Int) := by omega
          have HIL := Aside0.mk hi
          subst hA
          clear hi hrd hx hlt
          go_wp2
          go_quiet (first | (go_at_call 9; refine (hlat _).mono ?_; rintro e w3 ⟨rfl, rfl⟩; exact ⟨rfl, _, rfl⟩))
          by_cases hA : 40000 < x.f2
          · have hAb : decide (40000 < x.f2) = true := decide_eq_true hA
            clear hA
            go_wp2
            go_roundg (gk - 1)
            case measure => have := HI.out; have := HIL.out; omega
            case rel => exact ⟨i + 1, st, L, Z, last, col2, rfl, by first | rw [hw1.out] | (push_cast; rfl), ⟨by have := HI.out; have := HIL.out; omega⟩, ⟨HS.out.1.drewN _, HS.out.2.1, HS.out.2.2.1, Nat.le_succ_of_le HS.out.2.2.2.1, HS.out.2.2.2.2⟩⟩
          have hAb : decide (40000 < x.f2) = false := decide_eq_false hA
          have HXA := Aside0.mk hA
          clear hA
          by_cases hB : 1000 < x.f1.size
          · have hBb : decide (1000 < x.f1.size) = true := decide_eq_true hB
            have hBb2 : decide ((1000 : Int) < (x.f1.size : Int)) = true := decide_eq_true (by omega)
            clear hB
            go_wp2
            go_roundg (gk - 1)
            case measure => have := HI.out; have := HIL.out; omega
            case rel => exact ⟨i + 1, st, L, Z, last, col2, rfl, by first | rw [hw1.out] | (push_cast; rfl), ⟨by have := HI.out; have := HIL.out; omega⟩, ⟨HS.out.1.drewN _, HS.out.2.1, HS.out.2.2.1, Nat.le_succ_of_le HS.out.2.2.2.1, HS.out.2.2.2.2⟩⟩
          have hBb : decide (1000 < x.f1.size) = false := decide_eq_false hB
          have hBb2 : decide ((1000 : Int) < (x.f1.size : Int)) = false := decide_eq_false (by omega)
          have hset := du_set (HS.out.1.drewN nq) HS.out.2.1 (by have := HS.out.2.2.2.1; have := HN.out.2.2; have := HI.out; omega) x.f1 lt (by omega)
          have HXB := Aside0.mk hB
          clear hB
          by_cases h0 : setE st x.f1 lt = 0
          case neg =>
            rw [setS_no h0] at hset
            generalize setE st x.f1 lt = e0 at h0 hset
            have h0b : (e0 != 0) = true := bne_iff_ne.2 h0
            have h0c : (e0 = 0) = False := eq_false h0
            clear h0
            go_wp2_with (go_at_call 10; refine hset.mono ?_; rintro e w4 ⟨rfl, col4, h4⟩; have N4 := Aside0.mk h4; clear h4)
            go_roundg (gk - 1)
            case measure => have := HI.out; have := HIL.out; omega
            case rel => exact ⟨i + 1, st, L, Z, last, col4, rfl, by first | rw [hw1.out] | (push_cast; rfl), ⟨by have := HI.out; have := HIL.out; omega⟩, ⟨N4.out, HS.out.2.1, HS.out.2.2.1, Nat.le_succ_of_le HS.out.2.2.2.1, HS.out.2.2.2.2⟩⟩
          have HD2 := Aside0.mk (di_set HS.out.2.1 h0 (by have := HXB.out; omega))
          rw [h0] at hset
          have HSE := Aside0.mk (setE_zero h0)
          have HNOW2 : Aside0 ((setS st x.f1 lt).now = now) := ⟨by rw [setS_now]; exact HS.out.2.2.1⟩
          have HLEN2 : Aside0 ((insL L x.f1 lt).length ≤ i + 1) := ⟨by have := insL_length L x.f1 lt; have := HS.out.2.2.2.1; omega⟩
          have HLAST : Aside0 (0 ≤ max last lt ∧ max last lt ≤ now + 40000) := ⟨by
            have h1 := HS.out.2.2.2.2
            have h2 := HSE.out.2.1
            have h3 := HXA.out
            have h4 := HLT.out
            have h5 := HS.out.2.2.1
            have h6 := HN.out.1
            unfold laterT at h4
            split at h4 <;> omega⟩
          clear h0
          go_wp2_with (go_at_call 10; refine hset.mono ?_; rintro e w4 ⟨rfl, col4, h4⟩; have N4 := Aside0.mk h4; clear h4)
          all_goals
            go_loopg [13, 14] (Z.length) (fun kq v13 v14 w5 => ∃ (j : Nat) (col5 : Nat → Nat), v14 = .int .i64 j ∧ v13 = .bool (hasK (Z.take j) x.f1) ∧ Aside0 (j + kq = Z.length) ∧ Aside0 (DU w w5 col5 b bm (setS st x.f1 lt) u8 u9 (Z.map (·.1)) ((Zj x.f1 lt Z j).map (·.2))))
            case atStart => exact ⟨0, col4, rfl, rfl, ⟨by omega⟩, ⟨N4.out⟩⟩
            case round =>
              obtain ⟨j, col5, rfl, rfl, HJ, H5⟩ := hrel
              obtain ⟨A5, n5, c5, hu8, hn5⟩ : ∃ A5 n5 c5, u8 = .slice A5 n5 c5 ∧ n5 = Z.length := by
                obtain ⟨A5, c5, e⟩ := Kd.R_slice H5.out.rk
                exact ⟨A5, _, c5, e, List.length_map _⟩
              subst hn5
              by_cases hj : j < Z.length
              case neg =>
                have hjb : decide (j < Z.length) = false := decide_eq_false hj
                have hjZ : j = Z.length := by have := HJ.out; omega
                subst hjZ
                subst hu8
                rw [List.take_length]
                have HZZ : Aside0 (Zj x.f1 lt Z Z.length = Z.map (upd1 x.f1 lt)) := ⟨by unfold Zj; rw [List.take_length, List.drop_length, List.append_nil]⟩
                cases hm : hasK Z x.f1 with
                | true =>
                  clear hj
                  go_wp2
                  go_roundg (l.length - i - 1)
                  case measure => have := HI.out; have := HIL.out; omega
                  case rel =>
                    refine ⟨i + 1, setS st x.f1 lt, insL L x.f1 lt, upZ x.f1 lt Z, max last lt, col5, by first | rfl | (congr 1; omega), by first | rw [hw1.out] | (push_cast; rfl), ⟨by have := HI.out; have := HIL.out; omega⟩, ⟨?_, HD2.out, HNOW2.out, HLEN2.out, HLAST.out⟩⟩
                    have e : upZ x.f1 lt Z = Z.map (upd1 x.f1 lt) := by unfold upZ; rw [if_pos hm, List.append_nil]
                    have h := H5.out
                    rw [HZZ.out, ← e, ← upd1_key x.f1 lt Z, ← e] at h
                    exact h
                | false =>
                  clear hj
                  have HZL : Aside0 (Z.length ≤ 300) := ⟨by have := di_len HS.out.2.1; have := HS.out.2.2.2.1; have := HN.out.2.2; have := HIL.out; omega⟩
                  go_wp2_with (first
                    | ((with_reducible refine gate_builtin (b := .append) (xs := #[.tmp 100, .tmp 102]) rfl ?_); at_builtin; refine Kd.R_append Kd.string (w0 := wr) w.heap.size rfl (.tmp 100) (.tmp 102) 28 9 (.string ⟨#[]⟩) 16 rfl Try.underlying28 info9 rfl (by decide) (by omega) (.slice A5 Z.length c5) (Z.map (·.1)) x.f1 [.string x.f1] (fun g => col5 g = 210 ∨ wr.heap.size ≤ g) (fun _ => False) rfl rfl rfl (fun _ hk => hk.elim) (fun g hg => Or.inr hg) ?aO (Below.refl _ _) ?aS ?aL ?_; (case aO => exact Kd.R_mono H5.out.rk (fun g hg => Or.inl hg)); (case aS => exact H5.out.bl.size); (case aL => have := HZL.out; rw [List.length_map]; omega); intro v6 w6 ho hb hg hat; have N6 := Aside0.mk (H5.out.keys ho hg); clear ho hb hg hat)
                    | ((with_reducible refine gate_builtin (b := .append) (xs := #[.tmp 104, .tmp 106]) rfl ?_); at_builtin; refine Kd.R_append (Kd.int .i64) (w0 := w6) w.heap.size rfl (.tmp 104) (.tmp 106) 29 3 (.int .i64 0) 8 rfl Try.underlying29 info3 rfl (by decide) (by omega) u9 ((Zj x.f1 lt Z Z.length).map (·.2)) lt [.int .i64 lt] (fun g => newCol wr col5 210 g = 211 ∨ w6.heap.size ≤ g) (fun _ => False) rfl rfl rfl (fun _ hk => hk.elim) (fun g hg => Or.inr hg) ?aO (Below.refl _ _) ?aS ?aL ?_; (case aO => exact Kd.R_mono N6.out.ra (fun g hg => Or.inl hg)); (case aS => exact N6.out.bl.size); (case aL => have := HZL.out; rw [List.length_map, Zj_len]; omega); intro v7 w7 ho hb hg hat; have N7 := Aside0.mk (N6.out.ats ho hg); clear ho hb hg hat))
                  go_roundg (l.length - i - 1)
                  case measure => have := HI.out; have := HIL.out; omega
                  case rel =>
                    refine ⟨i + 1, setS st x.f1 lt, insL L x.f1 lt, upZ x.f1 lt Z, max last lt, newCol w6 (newCol wr col5 210) 211, by first | rfl | (congr 1; omega), by first | rw [hw1.out] | (push_cast; rfl), ⟨by have := HI.out; have := HIL.out; omega⟩, ⟨?_, HD2.out, HNOW2.out, HLEN2.out, HLAST.out⟩⟩
                    have e : upZ x.f1 lt Z = Z.map (upd1 x.f1 lt) ++ [(x.f1, lt)] := by unfold upZ; rw [if_neg (by rw [hm]; decide)]
                    have h := N7.out
                    rw [HZZ.out] at h
                    rw [e, List.map_append, List.map_append, upd1_key]
                    exact h
              have hjb : decide (j < Z.length) = true := decide_eq_true hj
              obtain ⟨g5, c5', e5, k5⟩ := at_key H5.out.rk j (by rw [List.length_map]; exact hj)
              obtain ⟨g6, c6, e6, k6, f6⟩ := at_int H5.out.ra j (by rw [List.length_map, Zj_len]; exact hj)
              rw [List.length_map] at e5
              rw [List.length_map, Zj_len] at e6
              rw [List.getElem_map] at k5
              obtain ⟨kj, hkj⟩ : ∃ kj, kj = Z[j].1 := ⟨_, rfl⟩
              rw [← hkj] at k5
              have HKJ := Aside0.mk hkj
              have HJL := Aside0.mk hj
              have hw2 : Aside0 (wrap64 ((j : Int) + 1) = ((j + 1 : Nat) : Int)) := ⟨by have := di_len HS.out.2.1; have := HS.out.2.2.2.1; have := HN.out.2.2; have := HIL.out; rw [wrap64_is (by omega) (by omega)]; omega⟩
              have hjr : (0 : Int) ≤ (j : Int) := by omega
              have hjl : (j : Int) < (Z.length : Int) := by omega
              have HNX := Aside0.mk (hasK_next x.f1 Z j hj)
              subst hu8
              obtain ⟨rfl, rfl⟩ : A5 = some ⟨g5, 0, none⟩ ∧ c5 = c5' := by injection e5 with a1 a2 a3; exact ⟨a1, a3⟩
              subst e6
              obtain ⟨aj, k6'⟩ : ∃ aj, wr.cell? ⟨g6, j, none⟩ = some (.int .i64 aj) := ⟨_, k6⟩
              clear k6
              clear hkj e5
              by_cases hk : kj = x.f1
              · have hkt : kj.toList = x.f1.toList := by rw [hk]
                have hkb : (kj.toList == x.f1.toList) = true := beq_iff_eq.2 hkt
                have HR6 := Aside0.mk (set_int (by have h := H5.out.ra; have e : Z.length = ((Zj x.f1 lt Z j).map (·.2)).length := (by rw [List.length_map, Zj_len]); rw [e] at h; exact h) j (by rw [List.length_map, Zj_len]; exact HJL.out) lt)
                have HMT : Aside0 (hasK (Z.take (j + 1)) x.f1 = true) := ⟨by rw [HNX.out, ← HKJ.out, hk]; simp⟩
                have HZE : Aside0 ((Zj x.f1 lt Z (j + 1)).map (·.2) = ((Zj x.f1 lt Z j).map (·.2)).set j lt) := ⟨Zj_eq x.f1 lt Z j HJL.out (by rw [← HKJ.out]; exact hk)⟩
                clear hk
                go_wp2
                go_roundg (gk - 1)
                case measure => have := HJ.out; have := HJL.out; omega
                case rel =>
                  refine ⟨j + 1, newCol wr col5 211, by first | rw [hw2.out] | (push_cast; rfl), by rw [HMT.out], ⟨by have := HJ.out; have := HJL.out; omega⟩, ⟨?_⟩⟩
                  rw [HZE.out]
                  have h := H5.out.ats (w1 := wr.setCell ⟨g6, j, none⟩ (.int .i64 lt)) (Kd.R_mono HR6.out.1 (fun g hg => Or.inl hg)) HR6.out.2
                  have e : ((Zj x.f1 lt Z j).map (·.2)).length = Z.length := by rw [List.length_map, Zj_len]
                  rw [e] at h
                  exact h
              · have hkt : (kj.toList = x.f1.toList) = False := eq_false (fun e => hk (ba_toList.1 e))
                have hkb : (kj.toList == x.f1.toList) = false := beq_eq_false_iff_ne.2 (fun e => hk (ba_toList.1 e))
                have HMT : Aside0 (hasK (Z.take (j + 1)) x.f1 = hasK (Z.take j) x.f1) := ⟨by rw [HNX.out, ← HKJ.out]; simp [hk]⟩
                have HZE : Aside0 (Zj x.f1 lt Z (j + 1) = Zj x.f1 lt Z j) := ⟨Zj_ne x.f1 lt Z j HJL.out (by rw [← HKJ.out]; exact hk)⟩
                clear hk
                go_wp2
                go_roundg (gk - 1)
                case measure => have := HJ.out; have := HJL.out; omega
                case rel => exact ⟨j + 1, col5, by first | rw [hw2.out] | (push_cast; rfl), by rw [HMT.out], ⟨by have := HJ.out; have := HJL.out; omega⟩, ⟨by rw [HZE.out]; exact H5.out⟩⟩

end Go.Proofs.Ytcknocglaimcpaa.WA

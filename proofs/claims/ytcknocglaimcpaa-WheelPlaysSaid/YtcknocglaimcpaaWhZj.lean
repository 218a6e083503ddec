/- The document's wheel: what stays; Drop. -/
import Derived.Test.YtcknocglaimcpaaWhZi
namespace Go.Proofs.Ytcknocglaimcpaa.WA
open Go.RowKit Go.Proofs.YtcknocglaimcpaaW.PrintWords Go.Proofs.YtcknocglaimcpaaW.PrintLast Go.Proofs.YtcknocglaimcpaaW.PrintMore
open Go.Proofs.Ytcknocglaimcpaa.PW Go.Proofs.Ytcknocglaimcpaa.Wh Go.Maps
set_option linter.unusedVariables false
set_option linter.unusedSimpArgs false
set_option maxHeartbeats 8000000
set_option maxRecDepth 100000
theorem k38_any {W W' : World} {x : S38} {cs : List Value} (h : k38.K W x cs) : k38.K W' x cs := by
  rw [k38_open h]
  exact k38_mk W' x
/-- A row that is read stays where its block stays. -/
theorem C_stay {w w' : World} {A : Option Addr} {n : Nat} {xs : List S38} {S : Nat → Prop} (h : Kd.C k38 w A n xs) (hs : w.heap.size ≤ w'.heap.size) (hk : ∀ g, g < w.heap.size → ¬ S g → w'.heap[g]? = w.heap[g]?) (hA : ∀ ad, A = some ad → 0 < n → ¬ S ad.block) : Kd.C k38 w' A n xs :=
  Kd.C_foot_neS (d := k38) (S := S) k38_any h hA w' ⟨hs, hk⟩
theorem DA.keep {w w' : World} {r : Nat} {time : Int} {A : Option Addr} {n c : Nat} {L : List Tm} {S : Nat → Prop} (h : DA w r time A n c L) (hs : w.heap.size ≤ w'.heap.size) (hk : ∀ g, g < w.heap.size → ¬ S g → w'.heap[g]? = w.heap[g]?) (hr : ¬ S r) (hA : ∀ ad, A = some ad → 0 < n → ¬ S ad.block) : DA w' r time A n c L :=
  ⟨(hk r h.lt hr).trans h.hb, h.nn, h.nc, C_stay h.rd hs hk hA, h.ab⟩
theorem DA.grow {w w' : World} {r : Nat} {time : Int} {A : Option Addr} {n c : Nat} {L : List Tm} (h : DA w r time A n c L) (hb : Below w.heap.size w w') : DA w' r time A n c L :=
  ⟨(hb.block r h.lt).trans h.hb, h.nn, h.nc, Kd.C_below h.rd hb, h.ab⟩
theorem DA.set0 {w : World} {r : Nat} {time : Int} {A : Option Addr} {n c : Nat} {L : List Tm} (h : DA w r time A n c L) (t : Int) : DA (w.setCell ⟨r, 0, none⟩ (.int .i64 t)) r t A n c L :=
  ⟨blk_set h.hb 0 _, h.nn, h.nc, C_stay (S := fun g => g = r) h.rd (by simp) (fun g _ hg => Below.heap_setCell w ⟨r, 0, none⟩ _ g hg) h.ab, h.ab⟩
theorem DA.set1 {w : World} {r : Nat} {time : Int} {A A' : Option Addr} {n c n' c' : Nat} {L L' : List Tm} (h : DA w r time A n c L) (hn : n' = L'.length) (hc : n' ≤ c') (hC : Kd.C k38 w A' n' (L'.map ofT)) (ha : ∀ ad, A' = some ad → 0 < n' → ad.block ≠ r) : DA (w.setCell ⟨r, 1, none⟩ (.slice A' n' c')) r time A' n' c' L' :=
  ⟨blk_set h.hb 1 _, hn, hc, C_stay (S := fun g => g = r) hC (by simp) (fun g _ hg => Below.heap_setCell w ⟨r, 1, none⟩ _ g hg) ha, ha⟩
theorem grown_set (w : World) (r o : Nat) (v : Value) : w.grownBy (w.setCell ⟨r, o, none⟩ v) (some r) := by
  have hb : Below r w (w.setCell ⟨r, o, none⟩ v) := (Below.refl r w).setCell (p := ⟨r, o, none⟩) (Nat.le_refl r) v
  exact ⟨hb.os, hb.tape, hb.output, hb.size, fun g _ hg => Below.heap_setCell w ⟨r, o, none⟩ v g (fun e => hg (congrArg some e))⟩
theorem grown_trans {w w1 w2 : World} {row : Option Nat} (h : w.grownBy w1 row) (h' : w1.grownBy w2 row) : w.grownBy w2 row := ⟨h'.os.trans h.os, h'.tape.trans h.tape, h'.output.trans h.output, Nat.le_trans h.size h'.size, fun k hk hr => (h'.block k (Nat.lt_of_lt_of_le hk h.size) hr).trans (h.block k hk hr)⟩
/-- Where a row of the document's wheel lies: where it lay, or in new memory. -/
def Src (w : World) (A : Option Addr) (n : Nat) (A' : Option Addr) (n' : Nat) : Prop := ∀ ad', A' = some ad' → 0 < n' → w.heap.size ≤ ad'.block ∨ ∃ ad, A = some ad ∧ 0 < n ∧ ad'.block = ad.block
theorem Src.refl (w : World) (A : Option Addr) (n : Nat) : Src w A n A n := fun ad h1 h2 => .inr ⟨ad, h1, h2, rfl⟩
theorem Src.trans {w w1 : World} {A A1 A2 : Option Addr} {n n1 n2 : Nat} (h : Src w A n A1 n1) (hs : w.heap.size ≤ w1.heap.size) (h' : Src w1 A1 n1 A2 n2) : Src w A n A2 n2 := by
  intro ad h1 h2
  rcases h' ad h1 h2 with h3 | ⟨ad1, h3, h4, h5⟩
  · exact .inl (by omega)
  · rw [h5]
    exact h ad1 h3 h4
theorem row_new {w w' : World} {A : Option Addr} {n c : Nat} {xs : List S38} (h : k38.R 38 w' w.heap.size (fun g => w.heap.size ≤ g) (.slice A n c) xs) : ∀ ad, A = some ad → w.heap.size ≤ ad.block := by
  rintro ad rfl
  exact h.1 ad.block rfl
theorem Src.new {w w' : World} {A0 : Option Addr} {n0 : Nat} {A : Option Addr} {n c : Nat} {xs : List S38} (h : k38.R 38 w' w.heap.size (fun g => w.heap.size ≤ g) (.slice A n c) xs) : Src w A0 n0 A n := fun ad h1 _ => .inl (row_new h ad h1)
/-- A new row becomes the wheel's. -/
theorem DA.turn {w w' : World} {r : Nat} {time : Int} {A A' : Option Addr} {n c n' c' : Nat} {L L' : List Tm} (h : DA w r time A n c L) (hb : Below w.heap.size w w') (hR : k38.R 38 w' w.heap.size (fun g => w.heap.size ≤ g) (.slice A' n' c') (L'.map ofT)) :
    DA (w'.setCell ⟨r, 1, none⟩ (.slice A' n' c')) r time A' n' c' L' ∧ w.grownBy (w'.setCell ⟨r, 1, none⟩ (.slice A' n' c')) (some r) ∧ Src w A n A' n' := by
  obtain ⟨h1, h2, h3⟩ := Kd.R_reads' hR
  have hlt := h.lt
  refine ⟨(h.grow hb).set1 (by rw [h1, List.length_map]) h2 (by rw [h1]; exact h3) (fun ad e _ => by have := row_new hR ad e; omega), grown_trans (grown_below hb _) (grown_set _ _ _ _), Src.new hR⟩
theorem cutK_at {L : List Tm} {i : Nat} {t : Tm} (h : L[i]? = some t) (key : ByteArray) : cutK (L.take (i + 1)) key = cutK (L.take i) key ++ (if t.1 = key then [] else [t]) := by
  rw [take_at h]
  unfold cutK
  rw [List.filter_append]
  by_cases hk : t.1 = key
  · rw [if_pos hk]; simp [hk]
  · rw [if_neg hk]; simp [hk]
theorem cutK_len (L : List Tm) (key : ByteArray) : (cutK L key).length ≤ L.length := List.length_filter_le _ _
theorem ddrop_calls {w : World} {r : Nat} {time : Int} {A : Option Addr} {n c : Nat} {L : List Tm} (h : DA w r time A n c L) (hl : n ≤ 1000) (key : ByteArray) :
    Calls Try.prog 21 #[.pointer (some ⟨r, 0, none⟩), .string key] w fun e w' => e = .returned (.bool (lk L key).isSome) ∧ ∃ A' n' c', DA w' r time A' n' c' (cutK L key) ∧ w.grownBy w' (some r) ∧ Src w A n A' n' := by
  have hu := Try.underlying51
  have hu38 := Try.underlying38
  have hat := dat_calls h (by omega) key
  have H := Aside0.mk h
  have HL := Aside0.mk hl
  have HR0 := Aside0.mk h.lt
  generalize (lk L key).isSome = y at hat ⊢
  generalize (lk L key).getD 0 = x at hat
  clear h hl
  go_enter Try.func21, Try.ntmps21
  go_wp2_with (go_at_call 25; refine hat.mono ?_; rintro e w1 ⟨rfl, rfl⟩)
  go_loopg [7, 8] n (fun kq v7 v8 w2 => ∃ i : Nat, v8 = .int .i64 i ∧ Aside0 (i + kq = n) ∧ Aside0 (k38.R 38 w2 w1.heap.size (fun g => w1.heap.size ≤ g) v7 ((cutK (L.take i) key).map ofT) ∧ Below w1.heap.size w1 w2))
  case atStart => exact ⟨0, rfl, ⟨by omega⟩, ⟨Kd.R_nil _ _ _ _ _, Below.refl _ _⟩⟩
  case round =>
    obtain ⟨i, rfl, HI, HS⟩ := hrel
    have HD := Aside0.mk (H.out.grow HS.out.2)
    have c1 := HD.out.c1
    by_cases hi : i < n
    case neg =>
      have hib : decide (i < n) = false := decide_eq_false hi
      have HE : Aside0 (cutK (L.take i) key = cutK L key) := ⟨by rw [List.take_of_length_le (by rw [← H.out.nn]; omega)]⟩
      clear hi
      have f1 : wr.frozen? ⟨r, 1, none⟩ = false := blk_frozen HD.out.hb 1
      obtain ⟨A1, c2, e1⟩ := Kd.R_slice HS.out.1
      subst e1
      have HT := Aside0.mk (H.out.turn HS.out.2 HS.out.1)
      rw [HE.out] at HT
      rw [HE.out]
      generalize ((cutK L key).map ofT).length = n1 at HT ⊢
      clear HS
      go_wp2
      go_ret
      obtain ⟨q1, q2, q3⟩ := HT.out
      exact ⟨rfl, A1, _, c2, q1, q2, q3⟩
    have hib : decide (i < n) = true := decide_eq_true hi
    obtain ⟨ad, t, hA, ht, d0, d1⟩ := HD.out.at i hi
    have HT := Aside0.mk ht
    have HIL := Aside0.mk hi
    have hw1 : Aside0 (wrap64 ((i : Int) + 1) = ((i + 1 : Nat) : Int)) := ⟨by have := HL.out; rw [wrap64_is (by omega) (by omega)]; omega⟩
    have HN := Aside0.mk (cutK_at ht key)
    have HLN : Aside0 ((cutK (L.take i) key).length ≤ 1000) := ⟨by have h1 := cutK_len (L.take i) key; rw [List.length_take, ← H.out.nn] at h1; have := HL.out; omega⟩
    have HSZ := Aside0.mk HS.out.2.size
    have hir : (0 : Int) ≤ (i : Int) := by omega
    have hil : (i : Int) < (n : Int) := by omega
    subst hA
    clear ht hi
    by_cases hk : t.1 = key
    · have hkt : (t.1.toList = key.toList) = True := eq_true (by rw [hk])
      have hkb : (t.1.toList == key.toList) = true := beq_iff_eq.2 (by rw [hk])
      have HR : Aside0 (cutK (L.take (i + 1)) key = cutK (L.take i) key) := ⟨by rw [HN.out, if_pos hk, List.append_nil]⟩
      clear hk
      go_wp2
      go_roundg (gk - 1)
      case measure => have := HI.out; have := HIL.out; omega
      case rel => exact ⟨i + 1, by first | rw [hw1.out] | (push_cast; rfl), ⟨by have := HI.out; have := HIL.out; omega⟩, ⟨by rw [HR.out]; exact HS.out⟩⟩
    · have hkt : (t.1.toList = key.toList) = False := eq_false (fun e => hk (baT.1 e))
      have hkb : (t.1.toList == key.toList) = false := beq_eq_false_iff_ne.2 (fun e => hk (baT.1 e))
      have HR : Aside0 ((cutK (L.take i) key).map ofT ++ [⟨t.1, t.2⟩] = (cutK (L.take (i + 1)) key).map ofT) := ⟨by rw [HN.out, if_neg hk, List.map_append]; rfl⟩
      clear hk
      go_wp2_with ((with_reducible refine gate_builtin (b := .append) (xs := #[.tmp 34, .tmp 42]) rfl ?_); at_builtin; refine Kd.R_append k38 (w0 := wr) w1.heap.size rfl (.tmp 34) (.tmp 42) 35 38 (.agg #[.string ⟨#[]⟩, .int .i64 0]) 24 rfl Try.underlying35 info38 rfl (by decide) (by omega) u7 ((cutK (L.take i) key).map ofT) ⟨t.1, t.2⟩ [.string t.1, .int .i64 t.2] (fun g => w1.heap.size ≤ g) (fun _ => False) rfl rfl (k38_mkM _ _ _ _) (fun _ hk => hk.elim) (fun g hg => Nat.le_trans HSZ.out hg) HS.out.1 (below_lower (Below.refl _ _) HSZ.out) HSZ.out ?aL ?_; (case aL => have := HLN.out; rw [List.length_map]; omega); intro v1 w5 ho hb hg hat; have N5 := Aside0.mk (And.intro ho (below_trans HS.out.2 hb)); clear ho hb hg hat)
      go_roundg (gk - 1)
      case measure => have := HI.out; have := HIL.out; omega
      case rel => exact ⟨i + 1, by first | rw [hw1.out] | (push_cast; rfl), ⟨by have := HI.out; have := HIL.out; omega⟩, ⟨by rw [← HR.out]; exact N5.out⟩⟩
end Go.Proofs.Ytcknocglaimcpaa.WA

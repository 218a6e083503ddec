/- The document's wheel: Set, where it sets. -/
import Derived.Test.YtcknocglaimcpaaWhZl
namespace Go.Proofs.Ytcknocglaimcpaa.WA
open Go.RowKit Go.Proofs.YtcknocglaimcpaaW.PrintWords Go.Proofs.YtcknocglaimcpaaW.PrintLast Go.Proofs.YtcknocglaimcpaaW.PrintMore
open Go.Proofs.Ytcknocglaimcpaa.PW Go.Proofs.Ytcknocglaimcpaa.Wh Go.Maps
set_option linter.unusedVariables false
set_option linter.unusedSimpArgs false
set_option maxHeartbeats 8000000
set_option maxRecDepth 100000
def TU : Bool × List (List Nat × List Nat) := (true, [([], []), ([], []), ([], []), ([2], [2]), ([3], [3]), ([4], [4]), ([], []), ([5, 6], [5, 6]), ([1, 7], [1, 7]), ([], []), ([], []), ([9, 10], [9, 10]), ([11], [11]), ([8, 12, 8], [8, 12]), ([], []), ([14], [14]), ([15], [15]), ([16], [16]), ([], []), ([17, 18], [17, 18]), ([13, 19, 13], [13, 19]), ([0, 0, 1, 2, 3, 4, 5, 6, 7, 8, 9, 10, 11, 12, 13, 14, 15, 16, 17, 18, 19, 20], [0]), ([21, 0, 1, 2, 3, 4, 5, 6, 7, 8, 9, 10, 11, 12, 13, 14, 15, 16, 17, 18, 19, 20], [21]), ([22, 20, 20, 0, 1, 2, 3, 4, 5, 6, 7, 8, 9, 10, 11, 12, 13, 14, 15, 16, 17, 18, 19, 20], [20, 22])])
def BU : List Nat := [0, 0, 0, 4, 12, 28, 0, 124, 254, 0, 0, 1536, 3584, 8190, 0, 16384, 49152, 114688, 0, 507904, 1048574, 2097151, 4194303, 8388607]
theorem tabU : rtab .any (opsOf Try.f19 12) = TU := by kernel_rfl
theorem bitsU : waitsOk TU.2 BU = true := by kernel_rfl
theorem ah_at {L : List Tm} {i : Nat} {t : Tm} (h : L[i]? = some t) (k : Tm) : ah k (L.drop i) = if t.2 < k.2 ∨ (t.2 = k.2 ∧ bl t.1.data.toList k.1.data.toList = true) then ah k (L.drop (i + 1)) + 1 else 0 := by
  rw [drop_at h]; rfl
theorem DA.parts {w : World} {r : Nat} {time : Int} {A : Option Addr} {n c : Nat} {L : List Tm} (h : DA w r time A n c L) (k : Nat) (hk : k ≤ n) : Kd.C k38 w A k ((L.take k).map ofT) ∧ Kd.C k38 w (if c = k then A else A.map (·.add (k * 2))) (n - k) ((L.drop k).map ofT) := by
  have hnn := h.nn
  have hl : (L.map ofT).length = n := by rw [List.length_map, hnn]
  have hrd : Kd.C k38 w A (L.map ofT).length (L.map ofT) := by rw [hl]; exact h.rd
  have hd := Kd.C_drop hrd (m := k) (by rw [hl]; exact hk) (by rw [hl]; exact h.nc)
  rw [List.length_drop, hl, ← List.map_drop] at hd
  have ht := Kd.C_take hrd (m := k) (by rw [hl]; exact hk)
  rw [List.length_take, hl, Nat.min_eq_left hk, ← List.map_take] at ht
  exact ⟨ht, hd⟩
theorem elem_new (W : World) (key : ByteArray) (a : Int) : Kd.C k38 (W.alloc (.cells #[.string key, .int .i64 a] 38)) (some ⟨W.heap.size, 0, none⟩) 1 [⟨key, a⟩] := by
  have hc : ∀ i, (W.alloc (.cells #[.string key, .int .i64 a] 38)).cell? ⟨W.heap.size, i, none⟩ = #[Value.string key, .int .i64 a][i]? := blk_cell (blk_new W _)
  refine ⟨rfl, by decide, fun _ => ⟨_, rfl, fun j p hp => ?_⟩⟩
  match j with
  | 0 =>
    obtain rfl : (⟨key, a⟩ : S38) = p := by simpa using hp
    refine ⟨_, rfl, k38_mk _ _, fun i u hu => ?_⟩
    have h1 : Addr.add ⟨W.heap.size, 0, none⟩ (0 * k38.sz + i) = ⟨W.heap.size, i, none⟩ := by
      simp [Addr.add]
      intro h
      exact h.symm
    rw [h1, hc]
    match i with
    | 0 => exact hu
    | 1 => exact hu
    | i + 2 => simp at hu
  | j + 1 => simp at hp
/-- Set's new row: where it has come to, whatever came first. -/
def J12 (wd : World) (key : ByteArray) (a : Int) (xs : List S38) (s : Value × Value × Nat) (w' : World) : Prop := k38.R 38 w' wd.heap.size (fun g => wd.heap.size ≤ g) s.2.1 xs ∧ Below wd.heap.size wd w' ∧ Kd.C k38 w' (some ⟨s.2.2, 0, none⟩) 1 [⟨key, a⟩]
theorem C_elem {wa wb : World} {o : Obj} {v : Value} {xs ys : List S38} {B : Nat} {ok : Nat → Prop} (h : Kd.C k38 (wa.alloc o) (some ⟨wa.heap.size, 0, none⟩) 1 ys) (hg : (wa.alloc o).grownBy wb v.ownBlock) (hR : k38.R 38 wa B ok v xs) : Kd.C k38 wb (some ⟨wa.heap.size, 0, none⟩) 1 ys := by
  refine C_stay (S := fun g => some g = v.ownBlock) h hg.size (fun g hlt hne => hg.block g hlt hne) ?_
  intro ad e _ e'
  obtain rfl := Option.some.inj e
  have h1 := ((Kd.R_bound hR).1 _ e'.symm).2.2.1
  have h2 : wa.heap.size < wa.heap.size := h1
  omega
theorem C_elem2 {wd wa wb : World} {o : Obj} {v : Value} {ys : List S38} (h : Kd.C k38 (wd.alloc o) (some ⟨wd.heap.size, 0, none⟩) 1 ys) (hg : (wd.alloc o).grownBy wa none) (hg2 : wa.grownBy wb v.ownBlock) (hn : ∃ b, v.ownBlock = some b ∧ (wd.alloc o).heap.size ≤ b) : Kd.C k38 wb (some ⟨wd.heap.size, 0, none⟩) 1 ys := by
  have h1 : Kd.C k38 wa (some ⟨wd.heap.size, 0, none⟩) 1 ys := C_stay (S := fun _ => False) h hg.size (fun g hlt _ => hg.block g hlt (by simp)) (fun _ _ _ hf => hf)
  refine C_stay (S := fun g => some g = v.ownBlock) h1 hg2.size (fun g hlt hne => hg2.block g hlt hne) ?_
  intro ad e _ e'
  obtain rfl := Option.some.inj e
  obtain ⟨b, hb, hle⟩ := hn
  rw [hb] at e'
  have h2 : wd.heap.size = b := Option.some.inj e'
  simp at hle
  omega
/-- What Set leaves. -/
def SetQ (w : World) (r : Nat) (time : Int) (A : Option Addr) (n : Nat) (L : List Tm) (w' : World) : Prop := ∃ A' n' c', DA w' r time A' n' c' L ∧ w.grownBy w' (some r) ∧ Src w A n A' n'
theorem dset_ok {w : World} {r : Nat} {time : Int} {A : Option Addr} {n c : Nat} {L : List Tm} (hD : DA w r time A n c L) (hl : n ≤ 1000) (key : ByteArray) (a : Int) (h : ¬ (key.size = 0 ∨ key.size > 100 ∨ a > far)) (ht : ¬ a ≤ time) (hk : (lk L key).isSome = true ∨ n < 200) :
    Calls Try.prog 19 #[.pointer (some ⟨r, 0, none⟩), .string key, .int .i64 a] w fun e w' => e = .returned (.int .i64 0) ∧ SetQ w r time A n (insL L key a) w' := by
  have hu := Try.underlying51
  have hu38 := Try.underlying38
  have hat := dat_calls hD (by omega) key
  have hdr := ddrop_calls hD hl key
  have h1 : ¬ key.size = 0 := fun e => h (.inl e)
  have h1b : decide (key.size < 1) = false := decide_eq_false (by omega)
  have h1i : decide ((key.size : Int) < 1) = false := decide_eq_false (by omega)
  have h2b : decide (100 < key.size) = false := decide_eq_false (by omega)
  have h2i : decide ((100 : Int) < (key.size : Int)) = false := decide_eq_false (by omega)
  have h3b : decide (1000000000 < a) = false := decide_eq_false (by unfold far at h; omega)
  have h4b : decide (a ≤ time) = false := decide_eq_false ht
  obtain ⟨M, hM⟩ : ∃ M, M = cutK L key := ⟨_, rfl⟩
  have HM : Aside0 (M = cutK L key ∧ M.length ≤ 1000) := ⟨hM, by rw [hM]; have h1 := cutK_len L key; rw [← hD.nn] at h1; omega⟩
  rw [← hM] at hdr
  obtain ⟨x, hx⟩ : ∃ x, x = (lk L key).getD 0 := ⟨_, rfl⟩
  obtain ⟨y, hy⟩ : ∃ y, y = (lk L key).isSome := ⟨_, rfl⟩
  obtain ⟨z, hz⟩ : ∃ z, decide (200 ≤ n) = z := ⟨_, rfl⟩
  have hzi : decide ((200 : Int) ≤ (n : Int)) = z := by rw [← hz]; exact decide_eq_decide.2 (by omega)
  rw [← hx, ← hy] at hat
  rw [← hy] at hdr
  have hyz : y = true ∨ z = false := by
    rcases hk with hk | hk
    · exact .inl (by rw [hy, hk])
    · exact .inr (by rw [← hz]; exact decide_eq_false (by omega))
  have c0 := hD.c0
  have c1 := hD.c1
  have H := Aside0.mk hD
  have HL := Aside0.mk hl
  have HDR := Aside0.mk hdr
  clear h hD ht hl hk hM hx hy hz h1 hdr
  cases y with
  | true =>
    clear hyz
    go_enter Try.func19, Try.ntmps19
    go_wp2_with (first | (go_at_call 25; refine hat.mono ?_; rintro e w1 ⟨rfl, rfl⟩) | (go_at_call 21; refine HDR.out.mono ?_; rintro e w2 ⟨rfl, A1, n1, k1, hd1, hg1, hs1⟩; have HD := Aside0.mk hd1; have HG := Aside0.mk (And.intro hg1 hs1); clear hd1 hg1 hs1 c0 c1))
    have HN1 : Aside0 (n1 ≤ 1000) := ⟨by rw [HD.out.nn]; exact HM.out.2⟩
    have c1 := HD.out.c1
    clear HDR hat
    go_loopg [9] n1 (fun kq v9 w3 => ∃ i : Nat, v9 = .int .i64 i ∧ Aside0 (i + kq = n1 ∧ i + ah (key, a) (M.drop i) = ah (key, a) M) ∧ Aside0 (w3 = w2))
    case atStart => exact ⟨0, rfl, ⟨by omega, by rw [Nat.zero_add]; rfl⟩, ⟨rfl⟩⟩
    case round =>
      obtain ⟨i, rfl, HI, HW⟩ := hrel
      have hw := HW.out
      subst hw
      have endP : Aside0 (ah (key, a) (M.drop i) = 0 → i = ah (key, a) M) := ⟨by have := HI.out.2; omega⟩
      by_cases hi : i < n1
      case neg =>
        have hib : decide (i < n1) = false := decide_eq_false hi
        have HE : Aside0 (i = ah (key, a) M ∧ i ≤ n1) := ⟨endP.out (by rw [List.drop_of_length_le (by rw [← HD.out.nn]; omega)]; rfl), by have := HI.out.1; omega⟩
        clear hi
        go_wp2
        try clear hA
        have HDd : Aside0 (DA wr.drew r time A1 n1 k1 M) := ⟨HD.out.grow (pw_below_drewN (Below.refl _ _) 1)⟩
        have HGd : Aside0 (w1.grownBy wr.drew (some r) ∧ Src w1 A n A1 n1) := ⟨grown_trans HG.out.1 (grown_below (pw_below_drewN (Below.refl _ _) 1) _), HG.out.2⟩
        have hdrew : ∃ wd, wd = wr.drew := ⟨_, rfl⟩
        obtain ⟨wd, hwd⟩ := hdrew
        rw [← hwd] at HDd HGd
        have cd := HDd.out.c1
        have HP := Aside0.mk (HDd.out.parts i HE.out.2)
        have hin : i ≤ n1 := HE.out.2
        have hini : (i : Int) ≤ (n1 : Int) := by omega
        have hin0 : (0 : Int) ≤ (i : Int) := by omega
        have hic : i ≤ k1 := Nat.le_trans hin HDd.out.nc
        have HLT : Aside0 (((M.take i).map ofT).length ≤ 1000 ∧ ((M.drop i).map ofT).length ≤ 1000) := ⟨by have := HM.out.2; rw [List.length_map, List.length_map, List.length_take, List.length_drop]; omega⟩
        generalize hAd : (if k1 = i then A1 else A1.map (·.add (i * 2))) = Ad at HP
        refine start_ (n := 24) (S := fun w' => w'.cell? ⟨r, 1, none⟩ = some (.slice A1 n1 k1)) (ds := [23]) #[false, false, false, false, false, false, false, false, false, false, false, false, false, false, false, false, false, false, false, false, false, false, false, false] (by kernel_rfl) rfl rfl (by rw [← hwd]; exact cd) (fun hHeld => ?_); refine with_tabW tabU bitsU (fun HT_ HW_ => ?_)
        rw [← hwd] at hHeld ⊢
        clear hwd
        refine pure_ (i := 0) (N := some 92) (v := ?_) (a' := ?_) #[true, false, false, false, false, false, false, false, false, false, false, false, false, false, false, false, false, false, false, false, false, false, false, false] rfl rfl (any_of HT_.out (by kernel_rfl)) (fun _ _ _ h => h) (Or.inl ⟨by rfl, ?_⟩) ?_ ?_
        rotate_left
        · intro w'
          go_simp
          first | done | with_reducible rfl
        rotate_left
        · simp only [Act.put, List.setIfInBounds_toArray, List.set_cons_zero, List.set_cons_succ, i64_w, i32_w]
          rfl
        refine pure_ (i := 2) (N := some 94) (v := ?_) (a' := ?_) #[true, false, true, false, false, false, false, false, false, false, false, false, false, false, false, false, false, false, false, false, false, false, false, false] rfl rfl (any_of HT_.out (by kernel_rfl)) (fun _ _ _ h => h) (Or.inl ⟨by rfl, ?_⟩) ?_ ?_
        rotate_left
        · intro w'
          go_simp
          first | done | with_reducible rfl
        rotate_left
        · simp only [Act.put, List.setIfInBounds_toArray, List.set_cons_zero, List.set_cons_succ, i64_w, i32_w]
          rfl
        refine pure_ (i := 3) (N := some 95) (v := ?_) (a' := ?_) #[true, false, true, true, false, false, false, false, false, false, false, false, false, false, false, false, false, false, false, false, false, false, false, false] rfl rfl (any_of HT_.out (by kernel_rfl)) (fun _ _ _ h => h) (Or.inl ⟨by rfl, ?_⟩) ?_ ?_
        rotate_left
        · intro w'
          go_simp
          first | done | with_reducible rfl
        rotate_left
        · simp only [Act.put, List.setIfInBounds_toArray, List.set_cons_zero, List.set_cons_succ, i64_w, i32_w]
          rfl
        refine pure_ (i := 4) (N := some 96) (v := ?_) (a' := ?_) #[true, false, true, true, true, false, false, false, false, false, false, false, false, false, false, false, false, false, false, false, false, false, false, false] rfl rfl (any_of HT_.out (by kernel_rfl)) (fun _ _ _ h => h) (Or.inl ⟨by rfl, ?_⟩) ?_ ?_
        rotate_left
        · intro w'
          go_simp
          first | done | with_reducible rfl
        rotate_left
        · simp only [Act.put, List.setIfInBounds_toArray, List.set_cons_zero, List.set_cons_succ, i64_w, i32_w]
          rfl
        refine take_ (i := 5) (N := some 97) (v := ?_) (a' := ?_) #[true, false, true, true, true, true, false, false, false, false, false, false, false, false, false, false, false, false, false, false, false, false, false, false] rfl rfl (take_ofW HT_.out HW_.out (by kernel_rfl)) (fun _ _ _ h => h) (Or.inl ⟨by rfl, ?_⟩) hHeld ?_ ?_
        rotate_left
        · intro w' s0
          go_simp
          first | done | with_reducible rfl
        rotate_left
        · simp only [Act.put, List.setIfInBounds_toArray, List.set_cons_zero, List.set_cons_succ, i64_w, i32_w]
          rfl
        refine pure_ (i := 6) (N := some 98) (v := ?_) (a' := ?_) #[true, false, true, true, true, true, true, false, false, false, false, false, false, false, false, false, false, false, false, false, false, false, false, false] rfl rfl (any_of HT_.out (by kernel_rfl)) (fun _ _ _ h => h) (Or.inl ⟨by rfl, ?_⟩) ?_ ?_
        rotate_left
        · intro w'
          go_simp
          first | done | with_reducible rfl
        rotate_left
        · simp only [Act.put, List.setIfInBounds_toArray, List.set_cons_zero, List.set_cons_succ, i64_w, i32_w]
          rfl
        refine pure_ (i := 7) (N := some 99) (v := ?_) (a' := ?_) #[true, false, true, true, true, true, true, true, false, false, false, false, false, false, false, false, false, false, false, false, false, false, false, false] rfl rfl (any_of HT_.out (by kernel_rfl)) (fun _ _ _ h => h) (Or.inl ⟨by rfl, ?_⟩) ?_ ?_
        rotate_left
        · intro w'
          go_simp
          first | done | with_reducible rfl
        rotate_left
        · simp only [Act.put, List.setIfInBounds_toArray, List.set_cons_zero, List.set_cons_succ, i64_w, i32_w]
          rfl
        refine pure_ (i := 9) (N := some 101) (v := ?_) (a' := ?_) #[true, false, true, true, true, true, true, true, false, true, false, false, false, false, false, false, false, false, false, false, false, false, false, false] rfl rfl (any_of HT_.out (by kernel_rfl)) (fun _ _ _ h => h) (Or.inl ⟨by rfl, ?_⟩) ?_ ?_
        rotate_left
        · intro w'
          go_simp
          first | done | with_reducible rfl
        rotate_left
        · simp only [Act.put, List.setIfInBounds_toArray, List.set_cons_zero, List.set_cons_succ, i64_w, i32_w]
          rfl
        refine pure_ (i := 10) (N := some 102) (v := ?_) (a' := ?_) #[true, false, true, true, true, true, true, true, false, true, true, false, false, false, false, false, false, false, false, false, false, false, false, false] rfl rfl (any_of HT_.out (by kernel_rfl)) (fun _ _ _ h => h) (Or.inl ⟨by rfl, ?_⟩) ?_ ?_
        rotate_left
        · intro w'
          go_simp
          first | done | with_reducible rfl
        rotate_left
        · simp only [Act.put, List.setIfInBounds_toArray, List.set_cons_zero, List.set_cons_succ, i64_w, i32_w]
          rfl
        refine pure_ (i := 11) (N := some 103) (v := ?_) (a' := ?_) #[true, false, true, true, true, true, true, true, false, true, true, true, false, false, false, false, false, false, false, false, false, false, false, false] rfl rfl (any_of HT_.out (by kernel_rfl)) (fun _ _ _ h => h) (Or.inl ⟨by rfl, ?_⟩) ?_ ?_
        rotate_left
        · intro w'
          go_simp
          first | done | with_reducible rfl
        rotate_left
        · simp only [Act.put, List.setIfInBounds_toArray, List.set_cons_zero, List.set_cons_succ, i64_w, i32_w]
          rfl
        refine pure_ (i := 14) (N := some 106) (v := ?_) (a' := ?_) #[true, false, true, true, true, true, true, true, false, true, true, true, false, false, true, false, false, false, false, false, false, false, false, false] rfl rfl (any_of HT_.out (by kernel_rfl)) (fun _ _ _ h => h) (Or.inl ⟨by rfl, ?_⟩) ?_ ?_
        rotate_left
        · intro w'
          go_simp
          first | done | with_reducible rfl
        rotate_left
        · simp only [Act.put, List.setIfInBounds_toArray, List.set_cons_zero, List.set_cons_succ, i64_w, i32_w]
          rfl
        refine pure_ (i := 15) (N := some 107) (v := ?_) (a' := ?_) #[true, false, true, true, true, true, true, true, false, true, true, true, false, false, true, true, false, false, false, false, false, false, false, false] rfl rfl (any_of HT_.out (by kernel_rfl)) (fun _ _ _ h => h) (Or.inl ⟨by rfl, ?_⟩) ?_ ?_
        rotate_left
        · intro w'
          go_simp
          first | done | with_reducible rfl
        rotate_left
        · simp only [Act.put, List.setIfInBounds_toArray, List.set_cons_zero, List.set_cons_succ, i64_w, i32_w]
          rfl
        refine pure_ (i := 16) (N := some 108) (v := ?_) (a' := ?_) #[true, false, true, true, true, true, true, true, false, true, true, true, false, false, true, true, true, false, false, false, false, false, false, false] rfl rfl (any_of HT_.out (by kernel_rfl)) (fun _ _ _ h => h) (Or.inl ⟨by rfl, ?_⟩) ?_ ?_
        rotate_left
        · intro w'
          go_simp
          first | done | with_reducible rfl
        rotate_left
        · simp only [Act.put, List.setIfInBounds_toArray, List.set_cons_zero, List.set_cons_succ, i64_w, i32_w]
          rfl
        refine take_ (i := 17) (N := some 109) (v := ?_) (a' := ?_) #[true, false, true, true, true, true, true, true, false, true, true, true, false, false, true, true, true, true, false, false, false, false, false, false] rfl rfl (take_ofW HT_.out HW_.out (by kernel_rfl)) (fun _ _ _ h => h) (Or.inl ⟨by rfl, ?_⟩) hHeld ?_ ?_
        rotate_left
        · intro w' s0
          go_simp
          first | done | with_reducible rfl
        rotate_left
        · simp only [Act.put, List.setIfInBounds_toArray, List.set_cons_zero, List.set_cons_succ, i64_w, i32_w]
          rfl
        refine pure_ (i := 18) (N := some 110) (v := ?_) (a' := ?_) #[true, false, true, true, true, true, true, true, false, true, true, true, false, false, true, true, true, true, true, false, false, false, false, false] rfl rfl (any_of HT_.out (by kernel_rfl)) (fun _ _ _ h => h) (Or.inl ⟨by rfl, ?_⟩) ?_ ?_
        rotate_left
        · intro w'
          go_simp
          first | done | with_reducible rfl
        rotate_left
        · simp only [Act.put, List.setIfInBounds_toArray, List.set_cons_zero, List.set_cons_succ, i64_w, i32_w]
          rfl
        refine pure_ (i := 19) (N := some 111) (v := ?_) (a' := ?_) #[true, false, true, true, true, true, true, true, false, true, true, true, false, false, true, true, true, true, true, true, false, false, false, false] rfl rfl (any_of HT_.out (by kernel_rfl)) (fun _ _ _ h => h) (Or.inl ⟨by rfl, ?_⟩) ?_ ?_
        rotate_left
        · intro w'
          go_simp
          first | done | with_reducible rfl
        rotate_left
        · simp only [Act.put, List.setIfInBounds_toArray, List.set_cons_zero, List.set_cons_succ, i64_w, i32_w]
          rfl
        refine join_ (σ := Value × Value × Nat) 5 #[true, true, true, true, true, true, true, true, true, true, true, true, true, false, true, true, true, true, true, true, false, false, false, false] (fun s => [(93, s.1), (100, s.2.1), (104, .slice (some ⟨s.2.2, 0, none⟩) 1 1)]) (J12 wd key a ((M.take i).map ofT)) ?_ ?_
        rotate_left
        · intro hCont
          refine two_ (i := 1) (j := 12) (Ni := some 93) (Nj := some 104) #[true, true, true, true, true, true, true, true, false, true, true, true, false, false, true, true, true, true, true, true, false, false, false, false] #[true, false, true, true, true, true, true, true, false, true, true, true, true, false, true, true, true, true, true, true, false, false, false, false] rfl rfl rfl rfl (two_of HT_.out (by kernel_rfl)) (by decide) (by decide) (fun K hK => ?_) (fun K hK => ?_)
          · skip
            refine Kd.R_lit_step k38 wd.heap.size 38 ?hg (N := 93) ?hd (w0 := wd) (xs := ([] : List S38)) (inner := []) (ok := fun g => wd.heap.size ≤ g) (okp := fun _ => False) ?hr ?hp (fun _ hk => hk.elim) (Nat.le_refl _) (Below.refl _ _) (Nat.le_refl _) (by simp) ?_; (case hd => rfl); (case hg => rfl); (case hr => first | (go_simp; done) | (go_simp; rfl)); (case hp => exact Reps.none _ _)
            intro v93 wa ho_ hb_ hg_ hn_
            refine hK.out _ _ ((HDd.out.grow (hb_)).c1) (fun hHeld => ?_)
            clear hK K
            refine norm_ (a' := ?_) ?_ ?_
            rotate_left
            · show Act.put _ (some 93) _ = _
              simp only [Act.put, List.setIfInBounds_toArray, List.set_cons_zero, List.set_cons_succ, i64_w, i32_w]
              rfl
            refine two_ (i := 8) (j := 12) (Ni := some 100) (Nj := some 104) #[true, true, true, true, true, true, true, true, true, true, true, true, false, false, true, true, true, true, true, true, false, false, false, false] #[true, true, true, true, true, true, true, true, false, true, true, true, true, false, true, true, true, true, true, true, false, false, false, false] rfl rfl rfl rfl (two_of HT_.out (by kernel_rfl)) (by decide) (by decide) (fun K hK => ?_) (fun K hK => ?_)
            · skip
              refine Kd.R_append_rows_step k38 (Rr := k38.K wa) (w0 := wd) wd.heap.size ?hw (.tmp 93) (.tmp 99) 35 38 (.agg #[.string ⟨#[]⟩, .int .i64 0]) 24 rfl Try.underlying35 info38 rfl (by decide) (by omega) v93 [] ((M.take i).map ofT) A1 i _ (fun g => wd.heap.size ≤ g) (fun _ => False) rfl rfl ho_ ?aR (fun x cs h => by rw [k38_open h]; exact k38_mkM _ _ _ _) (fun _ hk => hk.elim) (fun g hg => Nat.le_trans hb_.size hg) hb_ hb_.size ?aL ?_; (case hw => rfl); (case aR => exact Kd.C_below HP.out.1 hb_); (case aL => have := HE.out.2; have := HN1.out; simp only [List.length_nil]; omega)
              intro v100 wb ho2_ hb2_ hg2_ hn2_
              rw [List.nil_append] at ho2_
              refine hK.out _ _ ((HDd.out.grow (hb2_)).c1) (fun hHeld => ?_)
              clear hK K
              refine norm_ (a' := ?_) ?_ ?_
              rotate_left
              · show Act.put _ (some 100) _ = _
                simp only [Act.put, List.setIfInBounds_toArray, List.set_cons_zero, List.set_cons_succ, i64_w, i32_w]
                rfl
              refine one_ (i := 12) (N := some 104) #[true, true, true, true, true, true, true, true, true, true, true, true, true, false, true, true, true, true, true, true, false, false, false, false] rfl rfl (one_of HT_.out (by kernel_rfl)) (by decide) (fun K hK => ?_)
              refine value_ (w1 := ?_) (v := ?_) (by rfl) rfl ?_ ?_
              rotate_left 2
              · go_simp
                constructor
                · rfl
                · rfl
              refine hK.out _ _ ((HDd.out.grow (below_alloc hb2_ _)).c1) (fun hHeld => ?_)
              clear hK K
              refine norm_ (a' := ?_) ?_ ?_
              rotate_left
              · show Act.put _ (some 104) _ = _
                simp only [Act.put, List.setIfInBounds_toArray, List.set_cons_zero, List.set_cons_succ, i64_w, i32_w]
                rfl
              exact norm_ (by simp only [putAll, Act.put, List.setIfInBounds_toArray, List.set_cons_zero, List.set_cons_succ]) (hCont ⟨v93, v100, wb.heap.size⟩ _ ⟨Kd.R_below ho2_ (below_alloc (Below.refl _ _) _), below_alloc hb2_ _, elem_new wb key a⟩)
            · skip
              refine value_ (w1 := ?_) (v := ?_) (by rfl) rfl ?_ ?_
              rotate_left 2
              · go_simp
                constructor
                · rfl
                · rfl
              refine hK.out _ _ ((HDd.out.grow (below_alloc hb_ _)).c1) (fun hHeld => ?_)
              clear hK K
              refine norm_ (a' := ?_) ?_ ?_
              rotate_left
              · show Act.put _ (some 104) _ = _
                simp only [Act.put, List.setIfInBounds_toArray, List.set_cons_zero, List.set_cons_succ, i64_w, i32_w]
                rfl
              refine one_ (i := 8) (N := some 100) #[true, true, true, true, true, true, true, true, true, true, true, true, true, false, true, true, true, true, true, true, false, false, false, false] rfl rfl (one_of HT_.out (by kernel_rfl)) (by decide) (fun K hK => ?_)
              have hb1_ := below_alloc hb_ (.cells #[.string key, .int .i64 a] 38)
              refine Kd.R_append_rows_step k38 (Rr := k38.K (wa.alloc (.cells #[.string key, .int .i64 a] 38))) (w0 := wd) wd.heap.size ?hw (.tmp 93) (.tmp 99) 35 38 (.agg #[.string ⟨#[]⟩, .int .i64 0]) 24 rfl Try.underlying35 info38 rfl (by decide) (by omega) v93 [] ((M.take i).map ofT) A1 i _ (fun g => wd.heap.size ≤ g) (fun _ => False) rfl rfl (Kd.R_below ho_ (below_alloc (Below.refl _ _) _)) ?aR (fun x cs h => by rw [k38_open h]; exact k38_mkM _ _ _ _) (fun _ hk => hk.elim) (fun g hg => Nat.le_trans hb1_.size hg) hb1_ hb1_.size ?aL ?_; (case hw => rfl); (case aR => exact Kd.C_below HP.out.1 hb1_); (case aL => have := HE.out.2; have := HN1.out; simp only [List.length_nil]; omega)
              intro v100 wb ho2_ hb2_ hg2_ hn2_
              rw [List.nil_append] at ho2_
              refine hK.out _ _ ((HDd.out.grow (hb2_)).c1) (fun hHeld => ?_)
              clear hK K
              refine norm_ (a' := ?_) ?_ ?_
              rotate_left
              · show Act.put _ (some 100) _ = _
                simp only [Act.put, List.setIfInBounds_toArray, List.set_cons_zero, List.set_cons_succ, i64_w, i32_w]
                rfl
              exact norm_ (by simp only [putAll, Act.put, List.setIfInBounds_toArray, List.set_cons_zero, List.set_cons_succ]) (hCont ⟨v93, v100, wa.heap.size⟩ _ ⟨ho2_, hb2_, C_elem (elem_new wa key a) hg2_ ho_⟩)
          · skip
            refine value_ (w1 := ?_) (v := ?_) (by rfl) rfl ?_ ?_
            rotate_left 2
            · go_simp
              constructor
              · rfl
              · rfl
            refine hK.out _ _ ((HDd.out.grow (below_alloc (Below.refl _ _) _)).c1) (fun hHeld => ?_)
            clear hK K
            refine norm_ (a' := ?_) ?_ ?_
            rotate_left
            · show Act.put _ (some 104) _ = _
              simp only [Act.put, List.setIfInBounds_toArray, List.set_cons_zero, List.set_cons_succ, i64_w, i32_w]
              rfl
            refine one_ (i := 1) (N := some 93) #[true, true, true, true, true, true, true, true, false, true, true, true, true, false, true, true, true, true, true, true, false, false, false, false] rfl rfl (one_of HT_.out (by kernel_rfl)) (by decide) (fun K hK => ?_)
            have hb1_ := below_alloc (Below.refl wd.heap.size wd) (.cells #[.string key, .int .i64 a] 38)
            refine Kd.R_lit_step k38 wd.heap.size 38 ?hg (N := 93) ?hd (w0 := wd) (xs := ([] : List S38)) (inner := []) (ok := fun g => wd.heap.size ≤ g) (okp := fun _ => False) ?hr ?hp (fun _ hk => hk.elim) hb1_.size hb1_ hb1_.size (by simp) ?_; (case hd => rfl); (case hg => rfl); (case hr => first | (go_simp; done) | (go_simp; rfl)); (case hp => exact Reps.none _ _)
            intro v93 wa ho_ hb_ hg_ hn_
            refine hK.out _ _ ((HDd.out.grow (hb_)).c1) (fun hHeld => ?_)
            clear hK K
            refine norm_ (a' := ?_) ?_ ?_
            rotate_left
            · show Act.put _ (some 93) _ = _
              simp only [Act.put, List.setIfInBounds_toArray, List.set_cons_zero, List.set_cons_succ, i64_w, i32_w]
              rfl
            refine one_ (i := 8) (N := some 100) #[true, true, true, true, true, true, true, true, true, true, true, true, true, false, true, true, true, true, true, true, false, false, false, false] rfl rfl (one_of HT_.out (by kernel_rfl)) (by decide) (fun K hK => ?_)
            refine Kd.R_append_rows_step k38 (Rr := k38.K wa) (w0 := wd) wd.heap.size ?hw (.tmp 93) (.tmp 99) 35 38 (.agg #[.string ⟨#[]⟩, .int .i64 0]) 24 rfl Try.underlying35 info38 rfl (by decide) (by omega) v93 [] ((M.take i).map ofT) A1 i _ (fun g => wd.heap.size ≤ g) (fun _ => False) rfl rfl ho_ ?aR (fun x cs h => by rw [k38_open h]; exact k38_mkM _ _ _ _) (fun _ hk => hk.elim) (fun g hg => Nat.le_trans hb_.size hg) hb_ hb_.size ?aL ?_; (case hw => rfl); (case aR => exact Kd.C_below HP.out.1 hb_); (case aL => have := HE.out.2; have := HN1.out; simp only [List.length_nil]; omega)
            intro v100 wb ho2_ hb2_ hg2_ hn2_
            rw [List.nil_append] at ho2_
            refine hK.out _ _ ((HDd.out.grow (hb2_)).c1) (fun hHeld => ?_)
            clear hK K
            refine norm_ (a' := ?_) ?_ ?_
            rotate_left
            · show Act.put _ (some 100) _ = _
              simp only [Act.put, List.setIfInBounds_toArray, List.set_cons_zero, List.set_cons_succ, i64_w, i32_w]
              rfl
            exact norm_ (by simp only [putAll, Act.put, List.setIfInBounds_toArray, List.set_cons_zero, List.set_cons_succ]) (hCont ⟨v93, v100, wd.heap.size⟩ _ ⟨ho2_, hb2_, C_elem2 (elem_new wd key a) hg_ hg2_ hn_⟩)
        rintro ⟨v93, v100, g0⟩ wa ⟨ho_, hb_, hc_⟩
        simp only [putAll, Act.put, List.setIfInBounds_toArray, List.set_cons_zero, List.set_cons_succ]
        refine one_ (i := 13) (N := some 105) #[true, true, true, true, true, true, true, true, true, true, true, true, true, true, true, true, true, true, true, true, false, false, false, false] rfl rfl (one_of HT_.out (by kernel_rfl)) (by decide) (fun K hK => ?_)
        refine Kd.R_append_rows_step k38 (Rr := k38.K wa) (w0 := wd) wd.heap.size ?hw (.tmp 100) (.tmp 104) 35 38 (.agg #[.string ⟨#[]⟩, .int .i64 0]) 24 rfl Try.underlying35 info38 rfl (by decide) (by omega) v100 ((M.take i).map ofT) [⟨key, a⟩] (some ⟨g0, 0, none⟩) 1 _ (fun g => wd.heap.size ≤ g) (fun _ => False) rfl rfl ho_ ?aR (fun x cs h => by rw [k38_open h]; exact k38_mkM _ _ _ _) (fun _ hk => hk.elim) (fun g hg => Nat.le_trans hb_.size hg) hb_ hb_.size ?aL ?_; (case hw => rfl); (case aR => exact hc_); (case aL => have := HLT.out; omega)
        intro v105 wb ho2_ hb2_ hg2_ hn2_
        refine hK.out _ _ ((HDd.out.grow (hb2_)).c1) (fun hHeld => ?_)
        clear hK K
        refine norm_ (a' := ?_) ?_ ?_
        rotate_left
        · show Act.put _ (some 105) _ = _
          simp only [Act.put, List.setIfInBounds_toArray, List.set_cons_zero, List.set_cons_succ, i64_w, i32_w]
          rfl
        refine one_ (i := 20) (N := some 112) #[true, true, true, true, true, true, true, true, true, true, true, true, true, true, true, true, true, true, true, true, true, false, false, false] rfl rfl (one_of HT_.out (by kernel_rfl)) (by decide) (fun K hK => ?_)
        refine Kd.R_append_rows_step k38 (Rr := k38.K wb) (w0 := wd) wd.heap.size ?hw (.tmp 105) (.tmp 111) 35 38 (.agg #[.string ⟨#[]⟩, .int .i64 0]) 24 rfl Try.underlying35 info38 rfl (by decide) (by omega) v105 (((M.take i).map ofT) ++ [⟨key, a⟩]) ((M.drop i).map ofT) Ad (n1 - i) _ (fun g => wd.heap.size ≤ g) (fun _ => False) rfl rfl ho2_ ?aR (fun x cs h => by rw [k38_open h]; exact k38_mkM _ _ _ _) (fun _ hk => hk.elim) (fun g hg => Nat.le_trans hb2_.size hg) hb2_ hb2_.size ?aL ?_; (case hw => rfl); (case aR => exact Kd.C_below HP.out.2 hb2_); (case aL => have := HLT.out; have := HN1.out; rw [List.length_append, List.length_singleton]; omega)
        intro v112 wc ho3_ hb3_ hg3_ hn3_
        refine hK.out _ _ ((HDd.out.grow (hb3_)).c1) (fun hHeld => ?_)
        clear hK K
        refine norm_ (a' := ?_) ?_ ?_
        rotate_left
        · show Act.put _ (some 112) _ = _
          simp only [Act.put, List.setIfInBounds_toArray, List.set_cons_zero, List.set_cons_succ, i64_w, i32_w]
          rfl
        have hins : ((M.take i).map ofT) ++ [⟨key, a⟩] ++ (M.drop i).map ofT = (insL L key a).map ofT := by
          unfold insL
          rw [← HM.out.1, ← HE.out.1, List.map_append, List.map_cons, List.append_assoc]
          rfl
        rw [hins] at ho3_
        obtain ⟨A9, c9, e9⟩ := Kd.R_slice ho3_
        subst e9
        have HTN := Aside0.mk (HDd.out.turn hb3_ ho3_)
        generalize ((insL L key a).map ofT).length = n9 at HTN ho3_ ⊢
        have cE := (HDd.out.grow hb3_).c1
        have fE : wc.frozen? ⟨r, 1, none⟩ = false := blk_frozen (HDd.out.grow hb3_).hb 1
        refine pure_ (i := 21) (N := some 113) (v := ?_) (a' := ?_) #[true, true, true, true, true, true, true, true, true, true, true, true, true, true, true, true, true, true, true, true, true, true, false, false] rfl rfl (any_of HT_.out (by kernel_rfl)) (fun _ _ _ h => h) (Or.inl ⟨by rfl, ?_⟩) ?_ ?_
        rotate_left
        · intro w'
          go_simp
          first | done | with_reducible rfl
        rotate_left
        · simp only [Act.put, List.setIfInBounds_toArray, List.set_cons_zero, List.set_cons_succ, i64_w, i32_w]
          rfl
        refine pure_ (i := 22) (N := some 114) (v := ?_) (a' := ?_) #[true, true, true, true, true, true, true, true, true, true, true, true, true, true, true, true, true, true, true, true, true, true, true, false] rfl rfl (any_of HT_.out (by kernel_rfl)) (fun _ _ _ h => h) (Or.inl ⟨by rfl, ?_⟩) ?_ ?_
        rotate_left
        · intro w'
          go_simp
          first | done | with_reducible rfl
        rotate_left
        · simp only [Act.put, List.setIfInBounds_toArray, List.set_cons_zero, List.set_cons_succ, i64_w, i32_w]
          rfl
        refine last_ (i := 23) (N := none) #[true, true, true, true, true, true, true, true, true, true, true, true, true, true, true, true, true, true, true, true, true, true, true, true] rfl rfl (one_of HT_.out (by kernel_rfl)) (by decide) (fun K hK => ?_)
        refine skip_ (w1 := ?_) (by rfl) rfl ?_ ?_
        rotate_left
        · go_simp
          rfl
        refine hK.out _ _ ?_
        clear hK K
        refine done_ (done_of HT_.out (by kernel_rfl)) ?_
        clear ho_ hb_ hc_ ho2_ hb2_ hg2_ hn2_ ho3_ hb3_ hg3_ hn3_ hins
        go_wp2
        go_ret
        obtain ⟨q1, q2, q3⟩ := HTN.out
        exact ⟨rfl, A9, n9, c9, q1, grown_trans HGd.out.1 q2, Src.trans HGd.out.2 HGd.out.1.size q3⟩
      have hib : decide (i < n1) = true := decide_eq_true hi
      obtain ⟨ad, t, hA, ht, d0, d1⟩ := HD.out.at i hi
      have HN := Aside0.mk (ah_at ht (key, a))
      have HIL := Aside0.mk hi
      have hw1 : Aside0 (wrap64 ((i : Int) + 1) = ((i + 1 : Nat) : Int)) := ⟨by have := HN1.out; rw [wrap64_is (by omega) (by omega)]; omega⟩
      have hir : (0 : Int) ≤ (i : Int) := by omega
      have hil : (i : Int) < (n1 : Int) := by omega
      have hbl : Op.bytesLess t.1.toList key.toList = bl t.1.data.toList key.data.toList := by rw [bl_eq, ByteArray.toList_eq, ByteArray.toList_eq]
      by_cases hk : t.2 < a
      · have hkb : decide (t.2 < a) = true := decide_eq_true hk
        have HR : Aside0 (i + 1 + ah (key, a) (M.drop (i + 1)) = ah (key, a) M) := ⟨by have h1 := HN.out; rw [if_pos (.inl hk)] at h1; have := HI.out.2; omega⟩
        clear hk ht hi hbl
        go_wp2
        go_roundg (gk - 1)
        case measure => have := HI.out.1; have := HIL.out; omega
        case rel => exact ⟨i + 1, by first | rw [hw1.out] | (push_cast; rfl), ⟨by have := HI.out.1; have := HIL.out; omega, HR.out⟩, ⟨rfl⟩⟩
      · have hkb : decide (t.2 < a) = false := decide_eq_false hk
        by_cases hq : t.2 = a
        · have hqb : (t.2 == a) = true := beq_iff_eq.2 hq
          cases hbb : Op.bytesLess t.1.toList key.toList with
          | true =>
            have HR : Aside0 (i + 1 + ah (key, a) (M.drop (i + 1)) = ah (key, a) M) := ⟨by have h1 := HN.out; rw [if_pos (.inr ⟨hq, by rw [← hbl, hbb]⟩)] at h1; have := HI.out.2; omega⟩
            clear hk ht hi hbl hq
            go_wp2
            go_roundg (gk - 1)
            case measure => have := HI.out.1; have := HIL.out; omega
            case rel => exact ⟨i + 1, by first | rw [hw1.out] | (push_cast; rfl), ⟨by have := HI.out.1; have := HIL.out; omega, HR.out⟩, ⟨rfl⟩⟩
          | false =>
            have HE : Aside0 (i = ah (key, a) M ∧ i ≤ n1) := ⟨endP.out (by rw [HN.out, if_neg]; rintro (h | ⟨h1, h2⟩); exact hk h; rw [← hbl, hbb] at h2; cases h2), by omega⟩
            clear hk ht hi hbl hq
            go_wp2
            try clear hA
            have HDd : Aside0 (DA wr.drew r time A1 n1 k1 M) := ⟨HD.out.grow (pw_below_drewN (Below.refl _ _) 1)⟩
            have HGd : Aside0 (w1.grownBy wr.drew (some r) ∧ Src w1 A n A1 n1) := ⟨grown_trans HG.out.1 (grown_below (pw_below_drewN (Below.refl _ _) 1) _), HG.out.2⟩
            have hdrew : ∃ wd, wd = wr.drew := ⟨_, rfl⟩
            obtain ⟨wd, hwd⟩ := hdrew
            rw [← hwd] at HDd HGd
            have cd := HDd.out.c1
            have HP := Aside0.mk (HDd.out.parts i HE.out.2)
            have hin : i ≤ n1 := HE.out.2
            have hini : (i : Int) ≤ (n1 : Int) := by omega
            have hin0 : (0 : Int) ≤ (i : Int) := by omega
            have hic : i ≤ k1 := Nat.le_trans hin HDd.out.nc
            have HLT : Aside0 (((M.take i).map ofT).length ≤ 1000 ∧ ((M.drop i).map ofT).length ≤ 1000) := ⟨by have := HM.out.2; rw [List.length_map, List.length_map, List.length_take, List.length_drop]; omega⟩
            generalize hAd : (if k1 = i then A1 else A1.map (·.add (i * 2))) = Ad at HP
            refine start_ (n := 24) (S := fun w' => w'.cell? ⟨r, 1, none⟩ = some (.slice A1 n1 k1)) (ds := [23]) #[false, false, false, false, false, false, false, false, false, false, false, false, false, false, false, false, false, false, false, false, false, false, false, false] (by kernel_rfl) rfl rfl (by rw [← hwd]; exact cd) (fun hHeld => ?_); refine with_tabW tabU bitsU (fun HT_ HW_ => ?_)
            rw [← hwd] at hHeld ⊢
            clear hwd
            refine pure_ (i := 0) (N := some 92) (v := ?_) (a' := ?_) #[true, false, false, false, false, false, false, false, false, false, false, false, false, false, false, false, false, false, false, false, false, false, false, false] rfl rfl (any_of HT_.out (by kernel_rfl)) (fun _ _ _ h => h) (Or.inl ⟨by rfl, ?_⟩) ?_ ?_
            rotate_left
            · intro w'
              go_simp
              first | done | with_reducible rfl
            rotate_left
            · simp only [Act.put, List.setIfInBounds_toArray, List.set_cons_zero, List.set_cons_succ, i64_w, i32_w]
              rfl
            refine pure_ (i := 2) (N := some 94) (v := ?_) (a' := ?_) #[true, false, true, false, false, false, false, false, false, false, false, false, false, false, false, false, false, false, false, false, false, false, false, false] rfl rfl (any_of HT_.out (by kernel_rfl)) (fun _ _ _ h => h) (Or.inl ⟨by rfl, ?_⟩) ?_ ?_
            rotate_left
            · intro w'
              go_simp
              first | done | with_reducible rfl
            rotate_left
            · simp only [Act.put, List.setIfInBounds_toArray, List.set_cons_zero, List.set_cons_succ, i64_w, i32_w]
              rfl
            refine pure_ (i := 3) (N := some 95) (v := ?_) (a' := ?_) #[true, false, true, true, false, false, false, false, false, false, false, false, false, false, false, false, false, false, false, false, false, false, false, false] rfl rfl (any_of HT_.out (by kernel_rfl)) (fun _ _ _ h => h) (Or.inl ⟨by rfl, ?_⟩) ?_ ?_
            rotate_left
            · intro w'
              go_simp
              first | done | with_reducible rfl
            rotate_left
            · simp only [Act.put, List.setIfInBounds_toArray, List.set_cons_zero, List.set_cons_succ, i64_w, i32_w]
              rfl
            refine pure_ (i := 4) (N := some 96) (v := ?_) (a' := ?_) #[true, false, true, true, true, false, false, false, false, false, false, false, false, false, false, false, false, false, false, false, false, false, false, false] rfl rfl (any_of HT_.out (by kernel_rfl)) (fun _ _ _ h => h) (Or.inl ⟨by rfl, ?_⟩) ?_ ?_
            rotate_left
            · intro w'
              go_simp
              first | done | with_reducible rfl
            rotate_left
            · simp only [Act.put, List.setIfInBounds_toArray, List.set_cons_zero, List.set_cons_succ, i64_w, i32_w]
              rfl
            refine take_ (i := 5) (N := some 97) (v := ?_) (a' := ?_) #[true, false, true, true, true, true, false, false, false, false, false, false, false, false, false, false, false, false, false, false, false, false, false, false] rfl rfl (take_ofW HT_.out HW_.out (by kernel_rfl)) (fun _ _ _ h => h) (Or.inl ⟨by rfl, ?_⟩) hHeld ?_ ?_
            rotate_left
            · intro w' s0
              go_simp
              first | done | with_reducible rfl
            rotate_left
            · simp only [Act.put, List.setIfInBounds_toArray, List.set_cons_zero, List.set_cons_succ, i64_w, i32_w]
              rfl
            refine pure_ (i := 6) (N := some 98) (v := ?_) (a' := ?_) #[true, false, true, true, true, true, true, false, false, false, false, false, false, false, false, false, false, false, false, false, false, false, false, false] rfl rfl (any_of HT_.out (by kernel_rfl)) (fun _ _ _ h => h) (Or.inl ⟨by rfl, ?_⟩) ?_ ?_
            rotate_left
            · intro w'
              go_simp
              first | done | with_reducible rfl
            rotate_left
            · simp only [Act.put, List.setIfInBounds_toArray, List.set_cons_zero, List.set_cons_succ, i64_w, i32_w]
              rfl
            refine pure_ (i := 7) (N := some 99) (v := ?_) (a' := ?_) #[true, false, true, true, true, true, true, true, false, false, false, false, false, false, false, false, false, false, false, false, false, false, false, false] rfl rfl (any_of HT_.out (by kernel_rfl)) (fun _ _ _ h => h) (Or.inl ⟨by rfl, ?_⟩) ?_ ?_
            rotate_left
            · intro w'
              go_simp
              first | done | with_reducible rfl
            rotate_left
            · simp only [Act.put, List.setIfInBounds_toArray, List.set_cons_zero, List.set_cons_succ, i64_w, i32_w]
              rfl
            refine pure_ (i := 9) (N := some 101) (v := ?_) (a' := ?_) #[true, false, true, true, true, true, true, true, false, true, false, false, false, false, false, false, false, false, false, false, false, false, false, false] rfl rfl (any_of HT_.out (by kernel_rfl)) (fun _ _ _ h => h) (Or.inl ⟨by rfl, ?_⟩) ?_ ?_
            rotate_left
            · intro w'
              go_simp
              first | done | with_reducible rfl
            rotate_left
            · simp only [Act.put, List.setIfInBounds_toArray, List.set_cons_zero, List.set_cons_succ, i64_w, i32_w]
              rfl
            refine pure_ (i := 10) (N := some 102) (v := ?_) (a' := ?_) #[true, false, true, true, true, true, true, true, false, true, true, false, false, false, false, false, false, false, false, false, false, false, false, false] rfl rfl (any_of HT_.out (by kernel_rfl)) (fun _ _ _ h => h) (Or.inl ⟨by rfl, ?_⟩) ?_ ?_
            rotate_left
            · intro w'
              go_simp
              first | done | with_reducible rfl
            rotate_left
            · simp only [Act.put, List.setIfInBounds_toArray, List.set_cons_zero, List.set_cons_succ, i64_w, i32_w]
              rfl
            refine pure_ (i := 11) (N := some 103) (v := ?_) (a' := ?_) #[true, false, true, true, true, true, true, true, false, true, true, true, false, false, false, false, false, false, false, false, false, false, false, false] rfl rfl (any_of HT_.out (by kernel_rfl)) (fun _ _ _ h => h) (Or.inl ⟨by rfl, ?_⟩) ?_ ?_
            rotate_left
            · intro w'
              go_simp
              first | done | with_reducible rfl
            rotate_left
            · simp only [Act.put, List.setIfInBounds_toArray, List.set_cons_zero, List.set_cons_succ, i64_w, i32_w]
              rfl
            refine pure_ (i := 14) (N := some 106) (v := ?_) (a' := ?_) #[true, false, true, true, true, true, true, true, false, true, true, true, false, false, true, false, false, false, false, false, false, false, false, false] rfl rfl (any_of HT_.out (by kernel_rfl)) (fun _ _ _ h => h) (Or.inl ⟨by rfl, ?_⟩) ?_ ?_
            rotate_left
            · intro w'
              go_simp
              first | done | with_reducible rfl
            rotate_left
            · simp only [Act.put, List.setIfInBounds_toArray, List.set_cons_zero, List.set_cons_succ, i64_w, i32_w]
              rfl
            refine pure_ (i := 15) (N := some 107) (v := ?_) (a' := ?_) #[true, false, true, true, true, true, true, true, false, true, true, true, false, false, true, true, false, false, false, false, false, false, false, false] rfl rfl (any_of HT_.out (by kernel_rfl)) (fun _ _ _ h => h) (Or.inl ⟨by rfl, ?_⟩) ?_ ?_
            rotate_left
            · intro w'
              go_simp
              first | done | with_reducible rfl
            rotate_left
            · simp only [Act.put, List.setIfInBounds_toArray, List.set_cons_zero, List.set_cons_succ, i64_w, i32_w]
              rfl
            refine pure_ (i := 16) (N := some 108) (v := ?_) (a' := ?_) #[true, false, true, true, true, true, true, true, false, true, true, true, false, false, true, true, true, false, false, false, false, false, false, false] rfl rfl (any_of HT_.out (by kernel_rfl)) (fun _ _ _ h => h) (Or.inl ⟨by rfl, ?_⟩) ?_ ?_
            rotate_left
            · intro w'
              go_simp
              first | done | with_reducible rfl
            rotate_left
            · simp only [Act.put, List.setIfInBounds_toArray, List.set_cons_zero, List.set_cons_succ, i64_w, i32_w]
              rfl
            refine take_ (i := 17) (N := some 109) (v := ?_) (a' := ?_) #[true, false, true, true, true, true, true, true, false, true, true, true, false, false, true, true, true, true, false, false, false, false, false, false] rfl rfl (take_ofW HT_.out HW_.out (by kernel_rfl)) (fun _ _ _ h => h) (Or.inl ⟨by rfl, ?_⟩) hHeld ?_ ?_
            rotate_left
            · intro w' s0
              go_simp
              first | done | with_reducible rfl
            rotate_left
            · simp only [Act.put, List.setIfInBounds_toArray, List.set_cons_zero, List.set_cons_succ, i64_w, i32_w]
              rfl
            refine pure_ (i := 18) (N := some 110) (v := ?_) (a' := ?_) #[true, false, true, true, true, true, true, true, false, true, true, true, false, false, true, true, true, true, true, false, false, false, false, false] rfl rfl (any_of HT_.out (by kernel_rfl)) (fun _ _ _ h => h) (Or.inl ⟨by rfl, ?_⟩) ?_ ?_
            rotate_left
            · intro w'
              go_simp
              first | done | with_reducible rfl
            rotate_left
            · simp only [Act.put, List.setIfInBounds_toArray, List.set_cons_zero, List.set_cons_succ, i64_w, i32_w]
              rfl
            refine pure_ (i := 19) (N := some 111) (v := ?_) (a' := ?_) #[true, false, true, true, true, true, true, true, false, true, true, true, false, false, true, true, true, true, true, true, false, false, false, false] rfl rfl (any_of HT_.out (by kernel_rfl)) (fun _ _ _ h => h) (Or.inl ⟨by rfl, ?_⟩) ?_ ?_
            rotate_left
            · intro w'
              go_simp
              first | done | with_reducible rfl
            rotate_left
            · simp only [Act.put, List.setIfInBounds_toArray, List.set_cons_zero, List.set_cons_succ, i64_w, i32_w]
              rfl
            refine join_ (σ := Value × Value × Nat) 5 #[true, true, true, true, true, true, true, true, true, true, true, true, true, false, true, true, true, true, true, true, false, false, false, false] (fun s => [(93, s.1), (100, s.2.1), (104, .slice (some ⟨s.2.2, 0, none⟩) 1 1)]) (J12 wd key a ((M.take i).map ofT)) ?_ ?_
            rotate_left
            · intro hCont
              refine two_ (i := 1) (j := 12) (Ni := some 93) (Nj := some 104) #[true, true, true, true, true, true, true, true, false, true, true, true, false, false, true, true, true, true, true, true, false, false, false, false] #[true, false, true, true, true, true, true, true, false, true, true, true, true, false, true, true, true, true, true, true, false, false, false, false] rfl rfl rfl rfl (two_of HT_.out (by kernel_rfl)) (by decide) (by decide) (fun K hK => ?_) (fun K hK => ?_)
              · skip
                refine Kd.R_lit_step k38 wd.heap.size 38 ?hg (N := 93) ?hd (w0 := wd) (xs := ([] : List S38)) (inner := []) (ok := fun g => wd.heap.size ≤ g) (okp := fun _ => False) ?hr ?hp (fun _ hk => hk.elim) (Nat.le_refl _) (Below.refl _ _) (Nat.le_refl _) (by simp) ?_; (case hd => rfl); (case hg => rfl); (case hr => first | (go_simp; done) | (go_simp; rfl)); (case hp => exact Reps.none _ _)
                intro v93 wa ho_ hb_ hg_ hn_
                refine hK.out _ _ ((HDd.out.grow (hb_)).c1) (fun hHeld => ?_)
                clear hK K
                refine norm_ (a' := ?_) ?_ ?_
                rotate_left
                · show Act.put _ (some 93) _ = _
                  simp only [Act.put, List.setIfInBounds_toArray, List.set_cons_zero, List.set_cons_succ, i64_w, i32_w]
                  rfl
                refine two_ (i := 8) (j := 12) (Ni := some 100) (Nj := some 104) #[true, true, true, true, true, true, true, true, true, true, true, true, false, false, true, true, true, true, true, true, false, false, false, false] #[true, true, true, true, true, true, true, true, false, true, true, true, true, false, true, true, true, true, true, true, false, false, false, false] rfl rfl rfl rfl (two_of HT_.out (by kernel_rfl)) (by decide) (by decide) (fun K hK => ?_) (fun K hK => ?_)
                · skip
                  refine Kd.R_append_rows_step k38 (Rr := k38.K wa) (w0 := wd) wd.heap.size ?hw (.tmp 93) (.tmp 99) 35 38 (.agg #[.string ⟨#[]⟩, .int .i64 0]) 24 rfl Try.underlying35 info38 rfl (by decide) (by omega) v93 [] ((M.take i).map ofT) A1 i _ (fun g => wd.heap.size ≤ g) (fun _ => False) rfl rfl ho_ ?aR (fun x cs h => by rw [k38_open h]; exact k38_mkM _ _ _ _) (fun _ hk => hk.elim) (fun g hg => Nat.le_trans hb_.size hg) hb_ hb_.size ?aL ?_; (case hw => rfl); (case aR => exact Kd.C_below HP.out.1 hb_); (case aL => have := HE.out.2; have := HN1.out; simp only [List.length_nil]; omega)
                  intro v100 wb ho2_ hb2_ hg2_ hn2_
                  rw [List.nil_append] at ho2_
                  refine hK.out _ _ ((HDd.out.grow (hb2_)).c1) (fun hHeld => ?_)
                  clear hK K
                  refine norm_ (a' := ?_) ?_ ?_
                  rotate_left
                  · show Act.put _ (some 100) _ = _
                    simp only [Act.put, List.setIfInBounds_toArray, List.set_cons_zero, List.set_cons_succ, i64_w, i32_w]
                    rfl
                  refine one_ (i := 12) (N := some 104) #[true, true, true, true, true, true, true, true, true, true, true, true, true, false, true, true, true, true, true, true, false, false, false, false] rfl rfl (one_of HT_.out (by kernel_rfl)) (by decide) (fun K hK => ?_)
                  refine value_ (w1 := ?_) (v := ?_) (by rfl) rfl ?_ ?_
                  rotate_left 2
                  · go_simp
                    constructor
                    · rfl
                    · rfl
                  refine hK.out _ _ ((HDd.out.grow (below_alloc hb2_ _)).c1) (fun hHeld => ?_)
                  clear hK K
                  refine norm_ (a' := ?_) ?_ ?_
                  rotate_left
                  · show Act.put _ (some 104) _ = _
                    simp only [Act.put, List.setIfInBounds_toArray, List.set_cons_zero, List.set_cons_succ, i64_w, i32_w]
                    rfl
                  exact norm_ (by simp only [putAll, Act.put, List.setIfInBounds_toArray, List.set_cons_zero, List.set_cons_succ]) (hCont ⟨v93, v100, wb.heap.size⟩ _ ⟨Kd.R_below ho2_ (below_alloc (Below.refl _ _) _), below_alloc hb2_ _, elem_new wb key a⟩)
                · skip
                  refine value_ (w1 := ?_) (v := ?_) (by rfl) rfl ?_ ?_
                  rotate_left 2
                  · go_simp
                    constructor
                    · rfl
                    · rfl
                  refine hK.out _ _ ((HDd.out.grow (below_alloc hb_ _)).c1) (fun hHeld => ?_)
                  clear hK K
                  refine norm_ (a' := ?_) ?_ ?_
                  rotate_left
                  · show Act.put _ (some 104) _ = _
                    simp only [Act.put, List.setIfInBounds_toArray, List.set_cons_zero, List.set_cons_succ, i64_w, i32_w]
                    rfl
                  refine one_ (i := 8) (N := some 100) #[true, true, true, true, true, true, true, true, true, true, true, true, true, false, true, true, true, true, true, true, false, false, false, false] rfl rfl (one_of HT_.out (by kernel_rfl)) (by decide) (fun K hK => ?_)
                  have hb1_ := below_alloc hb_ (.cells #[.string key, .int .i64 a] 38)
                  refine Kd.R_append_rows_step k38 (Rr := k38.K (wa.alloc (.cells #[.string key, .int .i64 a] 38))) (w0 := wd) wd.heap.size ?hw (.tmp 93) (.tmp 99) 35 38 (.agg #[.string ⟨#[]⟩, .int .i64 0]) 24 rfl Try.underlying35 info38 rfl (by decide) (by omega) v93 [] ((M.take i).map ofT) A1 i _ (fun g => wd.heap.size ≤ g) (fun _ => False) rfl rfl (Kd.R_below ho_ (below_alloc (Below.refl _ _) _)) ?aR (fun x cs h => by rw [k38_open h]; exact k38_mkM _ _ _ _) (fun _ hk => hk.elim) (fun g hg => Nat.le_trans hb1_.size hg) hb1_ hb1_.size ?aL ?_; (case hw => rfl); (case aR => exact Kd.C_below HP.out.1 hb1_); (case aL => have := HE.out.2; have := HN1.out; simp only [List.length_nil]; omega)
                  intro v100 wb ho2_ hb2_ hg2_ hn2_
                  rw [List.nil_append] at ho2_
                  refine hK.out _ _ ((HDd.out.grow (hb2_)).c1) (fun hHeld => ?_)
                  clear hK K
                  refine norm_ (a' := ?_) ?_ ?_
                  rotate_left
                  · show Act.put _ (some 100) _ = _
                    simp only [Act.put, List.setIfInBounds_toArray, List.set_cons_zero, List.set_cons_succ, i64_w, i32_w]
                    rfl
                  exact norm_ (by simp only [putAll, Act.put, List.setIfInBounds_toArray, List.set_cons_zero, List.set_cons_succ]) (hCont ⟨v93, v100, wa.heap.size⟩ _ ⟨ho2_, hb2_, C_elem (elem_new wa key a) hg2_ ho_⟩)
              · skip
                refine value_ (w1 := ?_) (v := ?_) (by rfl) rfl ?_ ?_
                rotate_left 2
                · go_simp
                  constructor
                  · rfl
                  · rfl
                refine hK.out _ _ ((HDd.out.grow (below_alloc (Below.refl _ _) _)).c1) (fun hHeld => ?_)
                clear hK K
                refine norm_ (a' := ?_) ?_ ?_
                rotate_left
                · show Act.put _ (some 104) _ = _
                  simp only [Act.put, List.setIfInBounds_toArray, List.set_cons_zero, List.set_cons_succ, i64_w, i32_w]
                  rfl
                refine one_ (i := 1) (N := some 93) #[true, true, true, true, true, true, true, true, false, true, true, true, true, false, true, true, true, true, true, true, false, false, false, false] rfl rfl (one_of HT_.out (by kernel_rfl)) (by decide) (fun K hK => ?_)
                have hb1_ := below_alloc (Below.refl wd.heap.size wd) (.cells #[.string key, .int .i64 a] 38)
                refine Kd.R_lit_step k38 wd.heap.size 38 ?hg (N := 93) ?hd (w0 := wd) (xs := ([] : List S38)) (inner := []) (ok := fun g => wd.heap.size ≤ g) (okp := fun _ => False) ?hr ?hp (fun _ hk => hk.elim) hb1_.size hb1_ hb1_.size (by simp) ?_; (case hd => rfl); (case hg => rfl); (case hr => first | (go_simp; done) | (go_simp; rfl)); (case hp => exact Reps.none _ _)
                intro v93 wa ho_ hb_ hg_ hn_
                refine hK.out _ _ ((HDd.out.grow (hb_)).c1) (fun hHeld => ?_)
                clear hK K
                refine norm_ (a' := ?_) ?_ ?_
                rotate_left
                · show Act.put _ (some 93) _ = _
                  simp only [Act.put, List.setIfInBounds_toArray, List.set_cons_zero, List.set_cons_succ, i64_w, i32_w]
                  rfl
                refine one_ (i := 8) (N := some 100) #[true, true, true, true, true, true, true, true, true, true, true, true, true, false, true, true, true, true, true, true, false, false, false, false] rfl rfl (one_of HT_.out (by kernel_rfl)) (by decide) (fun K hK => ?_)
                refine Kd.R_append_rows_step k38 (Rr := k38.K wa) (w0 := wd) wd.heap.size ?hw (.tmp 93) (.tmp 99) 35 38 (.agg #[.string ⟨#[]⟩, .int .i64 0]) 24 rfl Try.underlying35 info38 rfl (by decide) (by omega) v93 [] ((M.take i).map ofT) A1 i _ (fun g => wd.heap.size ≤ g) (fun _ => False) rfl rfl ho_ ?aR (fun x cs h => by rw [k38_open h]; exact k38_mkM _ _ _ _) (fun _ hk => hk.elim) (fun g hg => Nat.le_trans hb_.size hg) hb_ hb_.size ?aL ?_; (case hw => rfl); (case aR => exact Kd.C_below HP.out.1 hb_); (case aL => have := HE.out.2; have := HN1.out; simp only [List.length_nil]; omega)
                intro v100 wb ho2_ hb2_ hg2_ hn2_
                rw [List.nil_append] at ho2_
                refine hK.out _ _ ((HDd.out.grow (hb2_)).c1) (fun hHeld => ?_)
                clear hK K
                refine norm_ (a' := ?_) ?_ ?_
                rotate_left
                · show Act.put _ (some 100) _ = _
                  simp only [Act.put, List.setIfInBounds_toArray, List.set_cons_zero, List.set_cons_succ, i64_w, i32_w]
                  rfl
                exact norm_ (by simp only [putAll, Act.put, List.setIfInBounds_toArray, List.set_cons_zero, List.set_cons_succ]) (hCont ⟨v93, v100, wd.heap.size⟩ _ ⟨ho2_, hb2_, C_elem2 (elem_new wd key a) hg_ hg2_ hn_⟩)
            rintro ⟨v93, v100, g0⟩ wa ⟨ho_, hb_, hc_⟩
            simp only [putAll, Act.put, List.setIfInBounds_toArray, List.set_cons_zero, List.set_cons_succ]
            refine one_ (i := 13) (N := some 105) #[true, true, true, true, true, true, true, true, true, true, true, true, true, true, true, true, true, true, true, true, false, false, false, false] rfl rfl (one_of HT_.out (by kernel_rfl)) (by decide) (fun K hK => ?_)
            refine Kd.R_append_rows_step k38 (Rr := k38.K wa) (w0 := wd) wd.heap.size ?hw (.tmp 100) (.tmp 104) 35 38 (.agg #[.string ⟨#[]⟩, .int .i64 0]) 24 rfl Try.underlying35 info38 rfl (by decide) (by omega) v100 ((M.take i).map ofT) [⟨key, a⟩] (some ⟨g0, 0, none⟩) 1 _ (fun g => wd.heap.size ≤ g) (fun _ => False) rfl rfl ho_ ?aR (fun x cs h => by rw [k38_open h]; exact k38_mkM _ _ _ _) (fun _ hk => hk.elim) (fun g hg => Nat.le_trans hb_.size hg) hb_ hb_.size ?aL ?_; (case hw => rfl); (case aR => exact hc_); (case aL => have := HLT.out; omega)
            intro v105 wb ho2_ hb2_ hg2_ hn2_
            refine hK.out _ _ ((HDd.out.grow (hb2_)).c1) (fun hHeld => ?_)
            clear hK K
            refine norm_ (a' := ?_) ?_ ?_
            rotate_left
            · show Act.put _ (some 105) _ = _
              simp only [Act.put, List.setIfInBounds_toArray, List.set_cons_zero, List.set_cons_succ, i64_w, i32_w]
              rfl
            refine one_ (i := 20) (N := some 112) #[true, true, true, true, true, true, true, true, true, true, true, true, true, true, true, true, true, true, true, true, true, false, false, false] rfl rfl (one_of HT_.out (by kernel_rfl)) (by decide) (fun K hK => ?_)
            refine Kd.R_append_rows_step k38 (Rr := k38.K wb) (w0 := wd) wd.heap.size ?hw (.tmp 105) (.tmp 111) 35 38 (.agg #[.string ⟨#[]⟩, .int .i64 0]) 24 rfl Try.underlying35 info38 rfl (by decide) (by omega) v105 (((M.take i).map ofT) ++ [⟨key, a⟩]) ((M.drop i).map ofT) Ad (n1 - i) _ (fun g => wd.heap.size ≤ g) (fun _ => False) rfl rfl ho2_ ?aR (fun x cs h => by rw [k38_open h]; exact k38_mkM _ _ _ _) (fun _ hk => hk.elim) (fun g hg => Nat.le_trans hb2_.size hg) hb2_ hb2_.size ?aL ?_; (case hw => rfl); (case aR => exact Kd.C_below HP.out.2 hb2_); (case aL => have := HLT.out; have := HN1.out; rw [List.length_append, List.length_singleton]; omega)
            intro v112 wc ho3_ hb3_ hg3_ hn3_
            refine hK.out _ _ ((HDd.out.grow (hb3_)).c1) (fun hHeld => ?_)
            clear hK K
            refine norm_ (a' := ?_) ?_ ?_
            rotate_left
            · show Act.put _ (some 112) _ = _
              simp only [Act.put, List.setIfInBounds_toArray, List.set_cons_zero, List.set_cons_succ, i64_w, i32_w]
              rfl
            have hins : ((M.take i).map ofT) ++ [⟨key, a⟩] ++ (M.drop i).map ofT = (insL L key a).map ofT := by
              unfold insL
              rw [← HM.out.1, ← HE.out.1, List.map_append, List.map_cons, List.append_assoc]
              rfl
            rw [hins] at ho3_
            obtain ⟨A9, c9, e9⟩ := Kd.R_slice ho3_
            subst e9
            have HTN := Aside0.mk (HDd.out.turn hb3_ ho3_)
            generalize ((insL L key a).map ofT).length = n9 at HTN ho3_ ⊢
            have cE := (HDd.out.grow hb3_).c1
            have fE : wc.frozen? ⟨r, 1, none⟩ = false := blk_frozen (HDd.out.grow hb3_).hb 1
            refine pure_ (i := 21) (N := some 113) (v := ?_) (a' := ?_) #[true, true, true, true, true, true, true, true, true, true, true, true, true, true, true, true, true, true, true, true, true, true, false, false] rfl rfl (any_of HT_.out (by kernel_rfl)) (fun _ _ _ h => h) (Or.inl ⟨by rfl, ?_⟩) ?_ ?_
            rotate_left
            · intro w'
              go_simp
              first | done | with_reducible rfl
            rotate_left
            · simp only [Act.put, List.setIfInBounds_toArray, List.set_cons_zero, List.set_cons_succ, i64_w, i32_w]
              rfl
            refine pure_ (i := 22) (N := some 114) (v := ?_) (a' := ?_) #[true, true, true, true, true, true, true, true, true, true, true, true, true, true, true, true, true, true, true, true, true, true, true, false] rfl rfl (any_of HT_.out (by kernel_rfl)) (fun _ _ _ h => h) (Or.inl ⟨by rfl, ?_⟩) ?_ ?_
            rotate_left
            · intro w'
              go_simp
              first | done | with_reducible rfl
            rotate_left
            · simp only [Act.put, List.setIfInBounds_toArray, List.set_cons_zero, List.set_cons_succ, i64_w, i32_w]
              rfl
            refine last_ (i := 23) (N := none) #[true, true, true, true, true, true, true, true, true, true, true, true, true, true, true, true, true, true, true, true, true, true, true, true] rfl rfl (one_of HT_.out (by kernel_rfl)) (by decide) (fun K hK => ?_)
            refine skip_ (w1 := ?_) (by rfl) rfl ?_ ?_
            rotate_left
            · go_simp
              rfl
            refine hK.out _ _ ?_
            clear hK K
            refine done_ (done_of HT_.out (by kernel_rfl)) ?_
            clear ho_ hb_ hc_ ho2_ hb2_ hg2_ hn2_ ho3_ hb3_ hg3_ hn3_ hins
            go_wp2
            go_ret
            obtain ⟨q1, q2, q3⟩ := HTN.out
            exact ⟨rfl, A9, n9, c9, q1, grown_trans HGd.out.1 q2, Src.trans HGd.out.2 HGd.out.1.size q3⟩
        · have hqb : (t.2 == a) = false := beq_eq_false_iff_ne.2 hq
          have HE : Aside0 (i = ah (key, a) M ∧ i ≤ n1) := ⟨endP.out (by rw [HN.out, if_neg]; rintro (h | ⟨h1, h2⟩); exact hk h; exact hq h1), by omega⟩
          clear hk ht hi hbl hq
          go_wp2
          try clear hA
          have HDd : Aside0 (DA wr.drew r time A1 n1 k1 M) := ⟨HD.out.grow (pw_below_drewN (Below.refl _ _) 1)⟩
          have HGd : Aside0 (w1.grownBy wr.drew (some r) ∧ Src w1 A n A1 n1) := ⟨grown_trans HG.out.1 (grown_below (pw_below_drewN (Below.refl _ _) 1) _), HG.out.2⟩
          have hdrew : ∃ wd, wd = wr.drew := ⟨_, rfl⟩
          obtain ⟨wd, hwd⟩ := hdrew
          rw [← hwd] at HDd HGd
          have cd := HDd.out.c1
          have HP := Aside0.mk (HDd.out.parts i HE.out.2)
          have hin : i ≤ n1 := HE.out.2
          have hini : (i : Int) ≤ (n1 : Int) := by omega
          have hin0 : (0 : Int) ≤ (i : Int) := by omega
          have hic : i ≤ k1 := Nat.le_trans hin HDd.out.nc
          have HLT : Aside0 (((M.take i).map ofT).length ≤ 1000 ∧ ((M.drop i).map ofT).length ≤ 1000) := ⟨by have := HM.out.2; rw [List.length_map, List.length_map, List.length_take, List.length_drop]; omega⟩
          generalize hAd : (if k1 = i then A1 else A1.map (·.add (i * 2))) = Ad at HP
          refine start_ (n := 24) (S := fun w' => w'.cell? ⟨r, 1, none⟩ = some (.slice A1 n1 k1)) (ds := [23]) #[false, false, false, false, false, false, false, false, false, false, false, false, false, false, false, false, false, false, false, false, false, false, false, false] (by kernel_rfl) rfl rfl (by rw [← hwd]; exact cd) (fun hHeld => ?_); refine with_tabW tabU bitsU (fun HT_ HW_ => ?_)
          rw [← hwd] at hHeld ⊢
          clear hwd
          refine pure_ (i := 0) (N := some 92) (v := ?_) (a' := ?_) #[true, false, false, false, false, false, false, false, false, false, false, false, false, false, false, false, false, false, false, false, false, false, false, false] rfl rfl (any_of HT_.out (by kernel_rfl)) (fun _ _ _ h => h) (Or.inl ⟨by rfl, ?_⟩) ?_ ?_
          rotate_left
          · intro w'
            go_simp
            first | done | with_reducible rfl
          rotate_left
          · simp only [Act.put, List.setIfInBounds_toArray, List.set_cons_zero, List.set_cons_succ, i64_w, i32_w]
            rfl
          refine pure_ (i := 2) (N := some 94) (v := ?_) (a' := ?_) #[true, false, true, false, false, false, false, false, false, false, false, false, false, false, false, false, false, false, false, false, false, false, false, false] rfl rfl (any_of HT_.out (by kernel_rfl)) (fun _ _ _ h => h) (Or.inl ⟨by rfl, ?_⟩) ?_ ?_
          rotate_left
          · intro w'
            go_simp
            first | done | with_reducible rfl
          rotate_left
          · simp only [Act.put, List.setIfInBounds_toArray, List.set_cons_zero, List.set_cons_succ, i64_w, i32_w]
            rfl
          refine pure_ (i := 3) (N := some 95) (v := ?_) (a' := ?_) #[true, false, true, true, false, false, false, false, false, false, false, false, false, false, false, false, false, false, false, false, false, false, false, false] rfl rfl (any_of HT_.out (by kernel_rfl)) (fun _ _ _ h => h) (Or.inl ⟨by rfl, ?_⟩) ?_ ?_
          rotate_left
          · intro w'
            go_simp
            first | done | with_reducible rfl
          rotate_left
          · simp only [Act.put, List.setIfInBounds_toArray, List.set_cons_zero, List.set_cons_succ, i64_w, i32_w]
            rfl
          refine pure_ (i := 4) (N := some 96) (v := ?_) (a' := ?_) #[true, false, true, true, true, false, false, false, false, false, false, false, false, false, false, false, false, false, false, false, false, false, false, false] rfl rfl (any_of HT_.out (by kernel_rfl)) (fun _ _ _ h => h) (Or.inl ⟨by rfl, ?_⟩) ?_ ?_
          rotate_left
          · intro w'
            go_simp
            first | done | with_reducible rfl
          rotate_left
          · simp only [Act.put, List.setIfInBounds_toArray, List.set_cons_zero, List.set_cons_succ, i64_w, i32_w]
            rfl
          refine take_ (i := 5) (N := some 97) (v := ?_) (a' := ?_) #[true, false, true, true, true, true, false, false, false, false, false, false, false, false, false, false, false, false, false, false, false, false, false, false] rfl rfl (take_ofW HT_.out HW_.out (by kernel_rfl)) (fun _ _ _ h => h) (Or.inl ⟨by rfl, ?_⟩) hHeld ?_ ?_
          rotate_left
          · intro w' s0
            go_simp
            first | done | with_reducible rfl
          rotate_left
          · simp only [Act.put, List.setIfInBounds_toArray, List.set_cons_zero, List.set_cons_succ, i64_w, i32_w]
            rfl
          refine pure_ (i := 6) (N := some 98) (v := ?_) (a' := ?_) #[true, false, true, true, true, true, true, false, false, false, false, false, false, false, false, false, false, false, false, false, false, false, false, false] rfl rfl (any_of HT_.out (by kernel_rfl)) (fun _ _ _ h => h) (Or.inl ⟨by rfl, ?_⟩) ?_ ?_
          rotate_left
          · intro w'
            go_simp
            first | done | with_reducible rfl
          rotate_left
          · simp only [Act.put, List.setIfInBounds_toArray, List.set_cons_zero, List.set_cons_succ, i64_w, i32_w]
            rfl
          refine pure_ (i := 7) (N := some 99) (v := ?_) (a' := ?_) #[true, false, true, true, true, true, true, true, false, false, false, false, false, false, false, false, false, false, false, false, false, false, false, false] rfl rfl (any_of HT_.out (by kernel_rfl)) (fun _ _ _ h => h) (Or.inl ⟨by rfl, ?_⟩) ?_ ?_
          rotate_left
          · intro w'
            go_simp
            first | done | with_reducible rfl
          rotate_left
          · simp only [Act.put, List.setIfInBounds_toArray, List.set_cons_zero, List.set_cons_succ, i64_w, i32_w]
            rfl
          refine pure_ (i := 9) (N := some 101) (v := ?_) (a' := ?_) #[true, false, true, true, true, true, true, true, false, true, false, false, false, false, false, false, false, false, false, false, false, false, false, false] rfl rfl (any_of HT_.out (by kernel_rfl)) (fun _ _ _ h => h) (Or.inl ⟨by rfl, ?_⟩) ?_ ?_
          rotate_left
          · intro w'
            go_simp
            first | done | with_reducible rfl
          rotate_left
          · simp only [Act.put, List.setIfInBounds_toArray, List.set_cons_zero, List.set_cons_succ, i64_w, i32_w]
            rfl
          refine pure_ (i := 10) (N := some 102) (v := ?_) (a' := ?_) #[true, false, true, true, true, true, true, true, false, true, true, false, false, false, false, false, false, false, false, false, false, false, false, false] rfl rfl (any_of HT_.out (by kernel_rfl)) (fun _ _ _ h => h) (Or.inl ⟨by rfl, ?_⟩) ?_ ?_
          rotate_left
          · intro w'
            go_simp
            first | done | with_reducible rfl
          rotate_left
          · simp only [Act.put, List.setIfInBounds_toArray, List.set_cons_zero, List.set_cons_succ, i64_w, i32_w]
            rfl
          refine pure_ (i := 11) (N := some 103) (v := ?_) (a' := ?_) #[true, false, true, true, true, true, true, true, false, true, true, true, false, false, false, false, false, false, false, false, false, false, false, false] rfl rfl (any_of HT_.out (by kernel_rfl)) (fun _ _ _ h => h) (Or.inl ⟨by rfl, ?_⟩) ?_ ?_
          rotate_left
          · intro w'
            go_simp
            first | done | with_reducible rfl
          rotate_left
          · simp only [Act.put, List.setIfInBounds_toArray, List.set_cons_zero, List.set_cons_succ, i64_w, i32_w]
            rfl
          refine pure_ (i := 14) (N := some 106) (v := ?_) (a' := ?_) #[true, false, true, true, true, true, true, true, false, true, true, true, false, false, true, false, false, false, false, false, false, false, false, false] rfl rfl (any_of HT_.out (by kernel_rfl)) (fun _ _ _ h => h) (Or.inl ⟨by rfl, ?_⟩) ?_ ?_
          rotate_left
          · intro w'
            go_simp
            first | done | with_reducible rfl
          rotate_left
          · simp only [Act.put, List.setIfInBounds_toArray, List.set_cons_zero, List.set_cons_succ, i64_w, i32_w]
            rfl
          refine pure_ (i := 15) (N := some 107) (v := ?_) (a' := ?_) #[true, false, true, true, true, true, true, true, false, true, true, true, false, false, true, true, false, false, false, false, false, false, false, false] rfl rfl (any_of HT_.out (by kernel_rfl)) (fun _ _ _ h => h) (Or.inl ⟨by rfl, ?_⟩) ?_ ?_
          rotate_left
          · intro w'
            go_simp
            first | done | with_reducible rfl
          rotate_left
          · simp only [Act.put, List.setIfInBounds_toArray, List.set_cons_zero, List.set_cons_succ, i64_w, i32_w]
            rfl
          refine pure_ (i := 16) (N := some 108) (v := ?_) (a' := ?_) #[true, false, true, true, true, true, true, true, false, true, true, true, false, false, true, true, true, false, false, false, false, false, false, false] rfl rfl (any_of HT_.out (by kernel_rfl)) (fun _ _ _ h => h) (Or.inl ⟨by rfl, ?_⟩) ?_ ?_
          rotate_left
          · intro w'
            go_simp
            first | done | with_reducible rfl
          rotate_left
          · simp only [Act.put, List.setIfInBounds_toArray, List.set_cons_zero, List.set_cons_succ, i64_w, i32_w]
            rfl
          refine take_ (i := 17) (N := some 109) (v := ?_) (a' := ?_) #[true, false, true, true, true, true, true, true, false, true, true, true, false, false, true, true, true, true, false, false, false, false, false, false] rfl rfl (take_ofW HT_.out HW_.out (by kernel_rfl)) (fun _ _ _ h => h) (Or.inl ⟨by rfl, ?_⟩) hHeld ?_ ?_
          rotate_left
          · intro w' s0
            go_simp
            first | done | with_reducible rfl
          rotate_left
          · simp only [Act.put, List.setIfInBounds_toArray, List.set_cons_zero, List.set_cons_succ, i64_w, i32_w]
            rfl
          refine pure_ (i := 18) (N := some 110) (v := ?_) (a' := ?_) #[true, false, true, true, true, true, true, true, false, true, true, true, false, false, true, true, true, true, true, false, false, false, false, false] rfl rfl (any_of HT_.out (by kernel_rfl)) (fun _ _ _ h => h) (Or.inl ⟨by rfl, ?_⟩) ?_ ?_
          rotate_left
          · intro w'
            go_simp
            first | done | with_reducible rfl
          rotate_left
          · simp only [Act.put, List.setIfInBounds_toArray, List.set_cons_zero, List.set_cons_succ, i64_w, i32_w]
            rfl
          refine pure_ (i := 19) (N := some 111) (v := ?_) (a' := ?_) #[true, false, true, true, true, true, true, true, false, true, true, true, false, false, true, true, true, true, true, true, false, false, false, false] rfl rfl (any_of HT_.out (by kernel_rfl)) (fun _ _ _ h => h) (Or.inl ⟨by rfl, ?_⟩) ?_ ?_
          rotate_left
          · intro w'
            go_simp
            first | done | with_reducible rfl
          rotate_left
          · simp only [Act.put, List.setIfInBounds_toArray, List.set_cons_zero, List.set_cons_succ, i64_w, i32_w]
            rfl
          refine join_ (σ := Value × Value × Nat) 5 #[true, true, true, true, true, true, true, true, true, true, true, true, true, false, true, true, true, true, true, true, false, false, false, false] (fun s => [(93, s.1), (100, s.2.1), (104, .slice (some ⟨s.2.2, 0, none⟩) 1 1)]) (J12 wd key a ((M.take i).map ofT)) ?_ ?_
          rotate_left
          · intro hCont
            refine two_ (i := 1) (j := 12) (Ni := some 93) (Nj := some 104) #[true, true, true, true, true, true, true, true, false, true, true, true, false, false, true, true, true, true, true, true, false, false, false, false] #[true, false, true, true, true, true, true, true, false, true, true, true, true, false, true, true, true, true, true, true, false, false, false, false] rfl rfl rfl rfl (two_of HT_.out (by kernel_rfl)) (by decide) (by decide) (fun K hK => ?_) (fun K hK => ?_)
            · skip
              refine Kd.R_lit_step k38 wd.heap.size 38 ?hg (N := 93) ?hd (w0 := wd) (xs := ([] : List S38)) (inner := []) (ok := fun g => wd.heap.size ≤ g) (okp := fun _ => False) ?hr ?hp (fun _ hk => hk.elim) (Nat.le_refl _) (Below.refl _ _) (Nat.le_refl _) (by simp) ?_; (case hd => rfl); (case hg => rfl); (case hr => first | (go_simp; done) | (go_simp; rfl)); (case hp => exact Reps.none _ _)
              intro v93 wa ho_ hb_ hg_ hn_
              refine hK.out _ _ ((HDd.out.grow (hb_)).c1) (fun hHeld => ?_)
              clear hK K
              refine norm_ (a' := ?_) ?_ ?_
              rotate_left
              · show Act.put _ (some 93) _ = _
                simp only [Act.put, List.setIfInBounds_toArray, List.set_cons_zero, List.set_cons_succ, i64_w, i32_w]
                rfl
              refine two_ (i := 8) (j := 12) (Ni := some 100) (Nj := some 104) #[true, true, true, true, true, true, true, true, true, true, true, true, false, false, true, true, true, true, true, true, false, false, false, false] #[true, true, true, true, true, true, true, true, false, true, true, true, true, false, true, true, true, true, true, true, false, false, false, false] rfl rfl rfl rfl (two_of HT_.out (by kernel_rfl)) (by decide) (by decide) (fun K hK => ?_) (fun K hK => ?_)
              · skip
                refine Kd.R_append_rows_step k38 (Rr := k38.K wa) (w0 := wd) wd.heap.size ?hw (.tmp 93) (.tmp 99) 35 38 (.agg #[.string ⟨#[]⟩, .int .i64 0]) 24 rfl Try.underlying35 info38 rfl (by decide) (by omega) v93 [] ((M.take i).map ofT) A1 i _ (fun g => wd.heap.size ≤ g) (fun _ => False) rfl rfl ho_ ?aR (fun x cs h => by rw [k38_open h]; exact k38_mkM _ _ _ _) (fun _ hk => hk.elim) (fun g hg => Nat.le_trans hb_.size hg) hb_ hb_.size ?aL ?_; (case hw => rfl); (case aR => exact Kd.C_below HP.out.1 hb_); (case aL => have := HE.out.2; have := HN1.out; simp only [List.length_nil]; omega)
                intro v100 wb ho2_ hb2_ hg2_ hn2_
                rw [List.nil_append] at ho2_
                refine hK.out _ _ ((HDd.out.grow (hb2_)).c1) (fun hHeld => ?_)
                clear hK K
                refine norm_ (a' := ?_) ?_ ?_
                rotate_left
                · show Act.put _ (some 100) _ = _
                  simp only [Act.put, List.setIfInBounds_toArray, List.set_cons_zero, List.set_cons_succ, i64_w, i32_w]
                  rfl
                refine one_ (i := 12) (N := some 104) #[true, true, true, true, true, true, true, true, true, true, true, true, true, false, true, true, true, true, true, true, false, false, false, false] rfl rfl (one_of HT_.out (by kernel_rfl)) (by decide) (fun K hK => ?_)
                refine value_ (w1 := ?_) (v := ?_) (by rfl) rfl ?_ ?_
                rotate_left 2
                · go_simp
                  constructor
                  · rfl
                  · rfl
                refine hK.out _ _ ((HDd.out.grow (below_alloc hb2_ _)).c1) (fun hHeld => ?_)
                clear hK K
                refine norm_ (a' := ?_) ?_ ?_
                rotate_left
                · show Act.put _ (some 104) _ = _
                  simp only [Act.put, List.setIfInBounds_toArray, List.set_cons_zero, List.set_cons_succ, i64_w, i32_w]
                  rfl
                exact norm_ (by simp only [putAll, Act.put, List.setIfInBounds_toArray, List.set_cons_zero, List.set_cons_succ]) (hCont ⟨v93, v100, wb.heap.size⟩ _ ⟨Kd.R_below ho2_ (below_alloc (Below.refl _ _) _), below_alloc hb2_ _, elem_new wb key a⟩)
              · skip
                refine value_ (w1 := ?_) (v := ?_) (by rfl) rfl ?_ ?_
                rotate_left 2
                · go_simp
                  constructor
                  · rfl
                  · rfl
                refine hK.out _ _ ((HDd.out.grow (below_alloc hb_ _)).c1) (fun hHeld => ?_)
                clear hK K
                refine norm_ (a' := ?_) ?_ ?_
                rotate_left
                · show Act.put _ (some 104) _ = _
                  simp only [Act.put, List.setIfInBounds_toArray, List.set_cons_zero, List.set_cons_succ, i64_w, i32_w]
                  rfl
                refine one_ (i := 8) (N := some 100) #[true, true, true, true, true, true, true, true, true, true, true, true, true, false, true, true, true, true, true, true, false, false, false, false] rfl rfl (one_of HT_.out (by kernel_rfl)) (by decide) (fun K hK => ?_)
                have hb1_ := below_alloc hb_ (.cells #[.string key, .int .i64 a] 38)
                refine Kd.R_append_rows_step k38 (Rr := k38.K (wa.alloc (.cells #[.string key, .int .i64 a] 38))) (w0 := wd) wd.heap.size ?hw (.tmp 93) (.tmp 99) 35 38 (.agg #[.string ⟨#[]⟩, .int .i64 0]) 24 rfl Try.underlying35 info38 rfl (by decide) (by omega) v93 [] ((M.take i).map ofT) A1 i _ (fun g => wd.heap.size ≤ g) (fun _ => False) rfl rfl (Kd.R_below ho_ (below_alloc (Below.refl _ _) _)) ?aR (fun x cs h => by rw [k38_open h]; exact k38_mkM _ _ _ _) (fun _ hk => hk.elim) (fun g hg => Nat.le_trans hb1_.size hg) hb1_ hb1_.size ?aL ?_; (case hw => rfl); (case aR => exact Kd.C_below HP.out.1 hb1_); (case aL => have := HE.out.2; have := HN1.out; simp only [List.length_nil]; omega)
                intro v100 wb ho2_ hb2_ hg2_ hn2_
                rw [List.nil_append] at ho2_
                refine hK.out _ _ ((HDd.out.grow (hb2_)).c1) (fun hHeld => ?_)
                clear hK K
                refine norm_ (a' := ?_) ?_ ?_
                rotate_left
                · show Act.put _ (some 100) _ = _
                  simp only [Act.put, List.setIfInBounds_toArray, List.set_cons_zero, List.set_cons_succ, i64_w, i32_w]
                  rfl
                exact norm_ (by simp only [putAll, Act.put, List.setIfInBounds_toArray, List.set_cons_zero, List.set_cons_succ]) (hCont ⟨v93, v100, wa.heap.size⟩ _ ⟨ho2_, hb2_, C_elem (elem_new wa key a) hg2_ ho_⟩)
            · skip
              refine value_ (w1 := ?_) (v := ?_) (by rfl) rfl ?_ ?_
              rotate_left 2
              · go_simp
                constructor
                · rfl
                · rfl
              refine hK.out _ _ ((HDd.out.grow (below_alloc (Below.refl _ _) _)).c1) (fun hHeld => ?_)
              clear hK K
              refine norm_ (a' := ?_) ?_ ?_
              rotate_left
              · show Act.put _ (some 104) _ = _
                simp only [Act.put, List.setIfInBounds_toArray, List.set_cons_zero, List.set_cons_succ, i64_w, i32_w]
                rfl
              refine one_ (i := 1) (N := some 93) #[true, true, true, true, true, true, true, true, false, true, true, true, true, false, true, true, true, true, true, true, false, false, false, false] rfl rfl (one_of HT_.out (by kernel_rfl)) (by decide) (fun K hK => ?_)
              have hb1_ := below_alloc (Below.refl wd.heap.size wd) (.cells #[.string key, .int .i64 a] 38)
              refine Kd.R_lit_step k38 wd.heap.size 38 ?hg (N := 93) ?hd (w0 := wd) (xs := ([] : List S38)) (inner := []) (ok := fun g => wd.heap.size ≤ g) (okp := fun _ => False) ?hr ?hp (fun _ hk => hk.elim) hb1_.size hb1_ hb1_.size (by simp) ?_; (case hd => rfl); (case hg => rfl); (case hr => first | (go_simp; done) | (go_simp; rfl)); (case hp => exact Reps.none _ _)
              intro v93 wa ho_ hb_ hg_ hn_
              refine hK.out _ _ ((HDd.out.grow (hb_)).c1) (fun hHeld => ?_)
              clear hK K
              refine norm_ (a' := ?_) ?_ ?_
              rotate_left
              · show Act.put _ (some 93) _ = _
                simp only [Act.put, List.setIfInBounds_toArray, List.set_cons_zero, List.set_cons_succ, i64_w, i32_w]
                rfl
              refine one_ (i := 8) (N := some 100) #[true, true, true, true, true, true, true, true, true, true, true, true, true, false, true, true, true, true, true, true, false, false, false, false] rfl rfl (one_of HT_.out (by kernel_rfl)) (by decide) (fun K hK => ?_)
              refine Kd.R_append_rows_step k38 (Rr := k38.K wa) (w0 := wd) wd.heap.size ?hw (.tmp 93) (.tmp 99) 35 38 (.agg #[.string ⟨#[]⟩, .int .i64 0]) 24 rfl Try.underlying35 info38 rfl (by decide) (by omega) v93 [] ((M.take i).map ofT) A1 i _ (fun g => wd.heap.size ≤ g) (fun _ => False) rfl rfl ho_ ?aR (fun x cs h => by rw [k38_open h]; exact k38_mkM _ _ _ _) (fun _ hk => hk.elim) (fun g hg => Nat.le_trans hb_.size hg) hb_ hb_.size ?aL ?_; (case hw => rfl); (case aR => exact Kd.C_below HP.out.1 hb_); (case aL => have := HE.out.2; have := HN1.out; simp only [List.length_nil]; omega)
              intro v100 wb ho2_ hb2_ hg2_ hn2_
              rw [List.nil_append] at ho2_
              refine hK.out _ _ ((HDd.out.grow (hb2_)).c1) (fun hHeld => ?_)
              clear hK K
              refine norm_ (a' := ?_) ?_ ?_
              rotate_left
              · show Act.put _ (some 100) _ = _
                simp only [Act.put, List.setIfInBounds_toArray, List.set_cons_zero, List.set_cons_succ, i64_w, i32_w]
                rfl
              exact norm_ (by simp only [putAll, Act.put, List.setIfInBounds_toArray, List.set_cons_zero, List.set_cons_succ]) (hCont ⟨v93, v100, wd.heap.size⟩ _ ⟨ho2_, hb2_, C_elem2 (elem_new wd key a) hg_ hg2_ hn_⟩)
          rintro ⟨v93, v100, g0⟩ wa ⟨ho_, hb_, hc_⟩
          simp only [putAll, Act.put, List.setIfInBounds_toArray, List.set_cons_zero, List.set_cons_succ]
          refine one_ (i := 13) (N := some 105) #[true, true, true, true, true, true, true, true, true, true, true, true, true, true, true, true, true, true, true, true, false, false, false, false] rfl rfl (one_of HT_.out (by kernel_rfl)) (by decide) (fun K hK => ?_)
          refine Kd.R_append_rows_step k38 (Rr := k38.K wa) (w0 := wd) wd.heap.size ?hw (.tmp 100) (.tmp 104) 35 38 (.agg #[.string ⟨#[]⟩, .int .i64 0]) 24 rfl Try.underlying35 info38 rfl (by decide) (by omega) v100 ((M.take i).map ofT) [⟨key, a⟩] (some ⟨g0, 0, none⟩) 1 _ (fun g => wd.heap.size ≤ g) (fun _ => False) rfl rfl ho_ ?aR (fun x cs h => by rw [k38_open h]; exact k38_mkM _ _ _ _) (fun _ hk => hk.elim) (fun g hg => Nat.le_trans hb_.size hg) hb_ hb_.size ?aL ?_; (case hw => rfl); (case aR => exact hc_); (case aL => have := HLT.out; omega)
          intro v105 wb ho2_ hb2_ hg2_ hn2_
          refine hK.out _ _ ((HDd.out.grow (hb2_)).c1) (fun hHeld => ?_)
          clear hK K
          refine norm_ (a' := ?_) ?_ ?_
          rotate_left
          · show Act.put _ (some 105) _ = _
            simp only [Act.put, List.setIfInBounds_toArray, List.set_cons_zero, List.set_cons_succ, i64_w, i32_w]
            rfl
          refine one_ (i := 20) (N := some 112) #[true, true, true, true, true, true, true, true, true, true, true, true, true, true, true, true, true, true, true, true, true, false, false, false] rfl rfl (one_of HT_.out (by kernel_rfl)) (by decide) (fun K hK => ?_)
          refine Kd.R_append_rows_step k38 (Rr := k38.K wb) (w0 := wd) wd.heap.size ?hw (.tmp 105) (.tmp 111) 35 38 (.agg #[.string ⟨#[]⟩, .int .i64 0]) 24 rfl Try.underlying35 info38 rfl (by decide) (by omega) v105 (((M.take i).map ofT) ++ [⟨key, a⟩]) ((M.drop i).map ofT) Ad (n1 - i) _ (fun g => wd.heap.size ≤ g) (fun _ => False) rfl rfl ho2_ ?aR (fun x cs h => by rw [k38_open h]; exact k38_mkM _ _ _ _) (fun _ hk => hk.elim) (fun g hg => Nat.le_trans hb2_.size hg) hb2_ hb2_.size ?aL ?_; (case hw => rfl); (case aR => exact Kd.C_below HP.out.2 hb2_); (case aL => have := HLT.out; have := HN1.out; rw [List.length_append, List.length_singleton]; omega)
          intro v112 wc ho3_ hb3_ hg3_ hn3_
          refine hK.out _ _ ((HDd.out.grow (hb3_)).c1) (fun hHeld => ?_)
          clear hK K
          refine norm_ (a' := ?_) ?_ ?_
          rotate_left
          · show Act.put _ (some 112) _ = _
            simp only [Act.put, List.setIfInBounds_toArray, List.set_cons_zero, List.set_cons_succ, i64_w, i32_w]
            rfl
          have hins : ((M.take i).map ofT) ++ [⟨key, a⟩] ++ (M.drop i).map ofT = (insL L key a).map ofT := by
            unfold insL
            rw [← HM.out.1, ← HE.out.1, List.map_append, List.map_cons, List.append_assoc]
            rfl
          rw [hins] at ho3_
          obtain ⟨A9, c9, e9⟩ := Kd.R_slice ho3_
          subst e9
          have HTN := Aside0.mk (HDd.out.turn hb3_ ho3_)
          generalize ((insL L key a).map ofT).length = n9 at HTN ho3_ ⊢
          have cE := (HDd.out.grow hb3_).c1
          have fE : wc.frozen? ⟨r, 1, none⟩ = false := blk_frozen (HDd.out.grow hb3_).hb 1
          refine pure_ (i := 21) (N := some 113) (v := ?_) (a' := ?_) #[true, true, true, true, true, true, true, true, true, true, true, true, true, true, true, true, true, true, true, true, true, true, false, false] rfl rfl (any_of HT_.out (by kernel_rfl)) (fun _ _ _ h => h) (Or.inl ⟨by rfl, ?_⟩) ?_ ?_
          rotate_left
          · intro w'
            go_simp
            first | done | with_reducible rfl
          rotate_left
          · simp only [Act.put, List.setIfInBounds_toArray, List.set_cons_zero, List.set_cons_succ, i64_w, i32_w]
            rfl
          refine pure_ (i := 22) (N := some 114) (v := ?_) (a' := ?_) #[true, true, true, true, true, true, true, true, true, true, true, true, true, true, true, true, true, true, true, true, true, true, true, false] rfl rfl (any_of HT_.out (by kernel_rfl)) (fun _ _ _ h => h) (Or.inl ⟨by rfl, ?_⟩) ?_ ?_
          rotate_left
          · intro w'
            go_simp
            first | done | with_reducible rfl
          rotate_left
          · simp only [Act.put, List.setIfInBounds_toArray, List.set_cons_zero, List.set_cons_succ, i64_w, i32_w]
            rfl
          refine last_ (i := 23) (N := none) #[true, true, true, true, true, true, true, true, true, true, true, true, true, true, true, true, true, true, true, true, true, true, true, true] rfl rfl (one_of HT_.out (by kernel_rfl)) (by decide) (fun K hK => ?_)
          refine skip_ (w1 := ?_) (by rfl) rfl ?_ ?_
          rotate_left
          · go_simp
            rfl
          refine hK.out _ _ ?_
          clear hK K
          refine done_ (done_of HT_.out (by kernel_rfl)) ?_
          clear ho_ hb_ hc_ ho2_ hb2_ hg2_ hn2_ ho3_ hb3_ hg3_ hn3_ hins
          go_wp2
          go_ret
          obtain ⟨q1, q2, q3⟩ := HTN.out
          exact ⟨rfl, A9, n9, c9, q1, grown_trans HGd.out.1 q2, Src.trans HGd.out.2 HGd.out.1.size q3⟩
  | false =>
    obtain rfl : z = false := by simpa using hyz
    clear hyz
    go_enter Try.func19, Try.ntmps19
    go_wp2_with (first | (go_at_call 25; refine hat.mono ?_; rintro e w1 ⟨rfl, rfl⟩) | (go_at_call 21; refine HDR.out.mono ?_; rintro e w2 ⟨rfl, A1, n1, k1, hd1, hg1, hs1⟩; have HD := Aside0.mk hd1; have HG := Aside0.mk (And.intro hg1 hs1); clear hd1 hg1 hs1 c0 c1))
    have HN1 : Aside0 (n1 ≤ 1000) := ⟨by rw [HD.out.nn]; exact HM.out.2⟩
    have c1 := HD.out.c1
    clear HDR hat
    go_loopg [9] n1 (fun kq v9 w3 => ∃ i : Nat, v9 = .int .i64 i ∧ Aside0 (i + kq = n1 ∧ i + ah (key, a) (M.drop i) = ah (key, a) M) ∧ Aside0 (w3 = w2))
    case atStart => exact ⟨0, rfl, ⟨by omega, by rw [Nat.zero_add]; rfl⟩, ⟨rfl⟩⟩
    case round =>
      obtain ⟨i, rfl, HI, HW⟩ := hrel
      have hw := HW.out
      subst hw
      have endP : Aside0 (ah (key, a) (M.drop i) = 0 → i = ah (key, a) M) := ⟨by have := HI.out.2; omega⟩
      by_cases hi : i < n1
      case neg =>
        have hib : decide (i < n1) = false := decide_eq_false hi
        have HE : Aside0 (i = ah (key, a) M ∧ i ≤ n1) := ⟨endP.out (by rw [List.drop_of_length_le (by rw [← HD.out.nn]; omega)]; rfl), by have := HI.out.1; omega⟩
        clear hi
        go_wp2
        try clear hA
        have HDd : Aside0 (DA wr.drew r time A1 n1 k1 M) := ⟨HD.out.grow (pw_below_drewN (Below.refl _ _) 1)⟩
        have HGd : Aside0 (w1.grownBy wr.drew (some r) ∧ Src w1 A n A1 n1) := ⟨grown_trans HG.out.1 (grown_below (pw_below_drewN (Below.refl _ _) 1) _), HG.out.2⟩
        have hdrew : ∃ wd, wd = wr.drew := ⟨_, rfl⟩
        obtain ⟨wd, hwd⟩ := hdrew
        rw [← hwd] at HDd HGd
        have cd := HDd.out.c1
        have HP := Aside0.mk (HDd.out.parts i HE.out.2)
        have hin : i ≤ n1 := HE.out.2
        have hini : (i : Int) ≤ (n1 : Int) := by omega
        have hin0 : (0 : Int) ≤ (i : Int) := by omega
        have hic : i ≤ k1 := Nat.le_trans hin HDd.out.nc
        have HLT : Aside0 (((M.take i).map ofT).length ≤ 1000 ∧ ((M.drop i).map ofT).length ≤ 1000) := ⟨by have := HM.out.2; rw [List.length_map, List.length_map, List.length_take, List.length_drop]; omega⟩
        generalize hAd : (if k1 = i then A1 else A1.map (·.add (i * 2))) = Ad at HP
        refine start_ (n := 24) (S := fun w' => w'.cell? ⟨r, 1, none⟩ = some (.slice A1 n1 k1)) (ds := [23]) #[false, false, false, false, false, false, false, false, false, false, false, false, false, false, false, false, false, false, false, false, false, false, false, false] (by kernel_rfl) rfl rfl (by rw [← hwd]; exact cd) (fun hHeld => ?_); refine with_tabW tabU bitsU (fun HT_ HW_ => ?_)
        rw [← hwd] at hHeld ⊢
        clear hwd
        refine pure_ (i := 0) (N := some 92) (v := ?_) (a' := ?_) #[true, false, false, false, false, false, false, false, false, false, false, false, false, false, false, false, false, false, false, false, false, false, false, false] rfl rfl (any_of HT_.out (by kernel_rfl)) (fun _ _ _ h => h) (Or.inl ⟨by rfl, ?_⟩) ?_ ?_
        rotate_left
        · intro w'
          go_simp
          first | done | with_reducible rfl
        rotate_left
        · simp only [Act.put, List.setIfInBounds_toArray, List.set_cons_zero, List.set_cons_succ, i64_w, i32_w]
          rfl
        refine pure_ (i := 2) (N := some 94) (v := ?_) (a' := ?_) #[true, false, true, false, false, false, false, false, false, false, false, false, false, false, false, false, false, false, false, false, false, false, false, false] rfl rfl (any_of HT_.out (by kernel_rfl)) (fun _ _ _ h => h) (Or.inl ⟨by rfl, ?_⟩) ?_ ?_
        rotate_left
        · intro w'
          go_simp
          first | done | with_reducible rfl
        rotate_left
        · simp only [Act.put, List.setIfInBounds_toArray, List.set_cons_zero, List.set_cons_succ, i64_w, i32_w]
          rfl
        refine pure_ (i := 3) (N := some 95) (v := ?_) (a' := ?_) #[true, false, true, true, false, false, false, false, false, false, false, false, false, false, false, false, false, false, false, false, false, false, false, false] rfl rfl (any_of HT_.out (by kernel_rfl)) (fun _ _ _ h => h) (Or.inl ⟨by rfl, ?_⟩) ?_ ?_
        rotate_left
        · intro w'
          go_simp
          first | done | with_reducible rfl
        rotate_left
        · simp only [Act.put, List.setIfInBounds_toArray, List.set_cons_zero, List.set_cons_succ, i64_w, i32_w]
          rfl
        refine pure_ (i := 4) (N := some 96) (v := ?_) (a' := ?_) #[true, false, true, true, true, false, false, false, false, false, false, false, false, false, false, false, false, false, false, false, false, false, false, false] rfl rfl (any_of HT_.out (by kernel_rfl)) (fun _ _ _ h => h) (Or.inl ⟨by rfl, ?_⟩) ?_ ?_
        rotate_left
        · intro w'
          go_simp
          first | done | with_reducible rfl
        rotate_left
        · simp only [Act.put, List.setIfInBounds_toArray, List.set_cons_zero, List.set_cons_succ, i64_w, i32_w]
          rfl
        refine take_ (i := 5) (N := some 97) (v := ?_) (a' := ?_) #[true, false, true, true, true, true, false, false, false, false, false, false, false, false, false, false, false, false, false, false, false, false, false, false] rfl rfl (take_ofW HT_.out HW_.out (by kernel_rfl)) (fun _ _ _ h => h) (Or.inl ⟨by rfl, ?_⟩) hHeld ?_ ?_
        rotate_left
        · intro w' s0
          go_simp
          first | done | with_reducible rfl
        rotate_left
        · simp only [Act.put, List.setIfInBounds_toArray, List.set_cons_zero, List.set_cons_succ, i64_w, i32_w]
          rfl
        refine pure_ (i := 6) (N := some 98) (v := ?_) (a' := ?_) #[true, false, true, true, true, true, true, false, false, false, false, false, false, false, false, false, false, false, false, false, false, false, false, false] rfl rfl (any_of HT_.out (by kernel_rfl)) (fun _ _ _ h => h) (Or.inl ⟨by rfl, ?_⟩) ?_ ?_
        rotate_left
        · intro w'
          go_simp
          first | done | with_reducible rfl
        rotate_left
        · simp only [Act.put, List.setIfInBounds_toArray, List.set_cons_zero, List.set_cons_succ, i64_w, i32_w]
          rfl
        refine pure_ (i := 7) (N := some 99) (v := ?_) (a' := ?_) #[true, false, true, true, true, true, true, true, false, false, false, false, false, false, false, false, false, false, false, false, false, false, false, false] rfl rfl (any_of HT_.out (by kernel_rfl)) (fun _ _ _ h => h) (Or.inl ⟨by rfl, ?_⟩) ?_ ?_
        rotate_left
        · intro w'
          go_simp
          first | done | with_reducible rfl
        rotate_left
        · simp only [Act.put, List.setIfInBounds_toArray, List.set_cons_zero, List.set_cons_succ, i64_w, i32_w]
          rfl
        refine pure_ (i := 9) (N := some 101) (v := ?_) (a' := ?_) #[true, false, true, true, true, true, true, true, false, true, false, false, false, false, false, false, false, false, false, false, false, false, false, false] rfl rfl (any_of HT_.out (by kernel_rfl)) (fun _ _ _ h => h) (Or.inl ⟨by rfl, ?_⟩) ?_ ?_
        rotate_left
        · intro w'
          go_simp
          first | done | with_reducible rfl
        rotate_left
        · simp only [Act.put, List.setIfInBounds_toArray, List.set_cons_zero, List.set_cons_succ, i64_w, i32_w]
          rfl
        refine pure_ (i := 10) (N := some 102) (v := ?_) (a' := ?_) #[true, false, true, true, true, true, true, true, false, true, true, false, false, false, false, false, false, false, false, false, false, false, false, false] rfl rfl (any_of HT_.out (by kernel_rfl)) (fun _ _ _ h => h) (Or.inl ⟨by rfl, ?_⟩) ?_ ?_
        rotate_left
        · intro w'
          go_simp
          first | done | with_reducible rfl
        rotate_left
        · simp only [Act.put, List.setIfInBounds_toArray, List.set_cons_zero, List.set_cons_succ, i64_w, i32_w]
          rfl
        refine pure_ (i := 11) (N := some 103) (v := ?_) (a' := ?_) #[true, false, true, true, true, true, true, true, false, true, true, true, false, false, false, false, false, false, false, false, false, false, false, false] rfl rfl (any_of HT_.out (by kernel_rfl)) (fun _ _ _ h => h) (Or.inl ⟨by rfl, ?_⟩) ?_ ?_
        rotate_left
        · intro w'
          go_simp
          first | done | with_reducible rfl
        rotate_left
        · simp only [Act.put, List.setIfInBounds_toArray, List.set_cons_zero, List.set_cons_succ, i64_w, i32_w]
          rfl
        refine pure_ (i := 14) (N := some 106) (v := ?_) (a' := ?_) #[true, false, true, true, true, true, true, true, false, true, true, true, false, false, true, false, false, false, false, false, false, false, false, false] rfl rfl (any_of HT_.out (by kernel_rfl)) (fun _ _ _ h => h) (Or.inl ⟨by rfl, ?_⟩) ?_ ?_
        rotate_left
        · intro w'
          go_simp
          first | done | with_reducible rfl
        rotate_left
        · simp only [Act.put, List.setIfInBounds_toArray, List.set_cons_zero, List.set_cons_succ, i64_w, i32_w]
          rfl
        refine pure_ (i := 15) (N := some 107) (v := ?_) (a' := ?_) #[true, false, true, true, true, true, true, true, false, true, true, true, false, false, true, true, false, false, false, false, false, false, false, false] rfl rfl (any_of HT_.out (by kernel_rfl)) (fun _ _ _ h => h) (Or.inl ⟨by rfl, ?_⟩) ?_ ?_
        rotate_left
        · intro w'
          go_simp
          first | done | with_reducible rfl
        rotate_left
        · simp only [Act.put, List.setIfInBounds_toArray, List.set_cons_zero, List.set_cons_succ, i64_w, i32_w]
          rfl
        refine pure_ (i := 16) (N := some 108) (v := ?_) (a' := ?_) #[true, false, true, true, true, true, true, true, false, true, true, true, false, false, true, true, true, false, false, false, false, false, false, false] rfl rfl (any_of HT_.out (by kernel_rfl)) (fun _ _ _ h => h) (Or.inl ⟨by rfl, ?_⟩) ?_ ?_
        rotate_left
        · intro w'
          go_simp
          first | done | with_reducible rfl
        rotate_left
        · simp only [Act.put, List.setIfInBounds_toArray, List.set_cons_zero, List.set_cons_succ, i64_w, i32_w]
          rfl
        refine take_ (i := 17) (N := some 109) (v := ?_) (a' := ?_) #[true, false, true, true, true, true, true, true, false, true, true, true, false, false, true, true, true, true, false, false, false, false, false, false] rfl rfl (take_ofW HT_.out HW_.out (by kernel_rfl)) (fun _ _ _ h => h) (Or.inl ⟨by rfl, ?_⟩) hHeld ?_ ?_
        rotate_left
        · intro w' s0
          go_simp
          first | done | with_reducible rfl
        rotate_left
        · simp only [Act.put, List.setIfInBounds_toArray, List.set_cons_zero, List.set_cons_succ, i64_w, i32_w]
          rfl
        refine pure_ (i := 18) (N := some 110) (v := ?_) (a' := ?_) #[true, false, true, true, true, true, true, true, false, true, true, true, false, false, true, true, true, true, true, false, false, false, false, false] rfl rfl (any_of HT_.out (by kernel_rfl)) (fun _ _ _ h => h) (Or.inl ⟨by rfl, ?_⟩) ?_ ?_
        rotate_left
        · intro w'
          go_simp
          first | done | with_reducible rfl
        rotate_left
        · simp only [Act.put, List.setIfInBounds_toArray, List.set_cons_zero, List.set_cons_succ, i64_w, i32_w]
          rfl
        refine pure_ (i := 19) (N := some 111) (v := ?_) (a' := ?_) #[true, false, true, true, true, true, true, true, false, true, true, true, false, false, true, true, true, true, true, true, false, false, false, false] rfl rfl (any_of HT_.out (by kernel_rfl)) (fun _ _ _ h => h) (Or.inl ⟨by rfl, ?_⟩) ?_ ?_
        rotate_left
        · intro w'
          go_simp
          first | done | with_reducible rfl
        rotate_left
        · simp only [Act.put, List.setIfInBounds_toArray, List.set_cons_zero, List.set_cons_succ, i64_w, i32_w]
          rfl
        refine join_ (σ := Value × Value × Nat) 5 #[true, true, true, true, true, true, true, true, true, true, true, true, true, false, true, true, true, true, true, true, false, false, false, false] (fun s => [(93, s.1), (100, s.2.1), (104, .slice (some ⟨s.2.2, 0, none⟩) 1 1)]) (J12 wd key a ((M.take i).map ofT)) ?_ ?_
        rotate_left
        · intro hCont
          refine two_ (i := 1) (j := 12) (Ni := some 93) (Nj := some 104) #[true, true, true, true, true, true, true, true, false, true, true, true, false, false, true, true, true, true, true, true, false, false, false, false] #[true, false, true, true, true, true, true, true, false, true, true, true, true, false, true, true, true, true, true, true, false, false, false, false] rfl rfl rfl rfl (two_of HT_.out (by kernel_rfl)) (by decide) (by decide) (fun K hK => ?_) (fun K hK => ?_)
          · skip
            refine Kd.R_lit_step k38 wd.heap.size 38 ?hg (N := 93) ?hd (w0 := wd) (xs := ([] : List S38)) (inner := []) (ok := fun g => wd.heap.size ≤ g) (okp := fun _ => False) ?hr ?hp (fun _ hk => hk.elim) (Nat.le_refl _) (Below.refl _ _) (Nat.le_refl _) (by simp) ?_; (case hd => rfl); (case hg => rfl); (case hr => first | (go_simp; done) | (go_simp; rfl)); (case hp => exact Reps.none _ _)
            intro v93 wa ho_ hb_ hg_ hn_
            refine hK.out _ _ ((HDd.out.grow (hb_)).c1) (fun hHeld => ?_)
            clear hK K
            refine norm_ (a' := ?_) ?_ ?_
            rotate_left
            · show Act.put _ (some 93) _ = _
              simp only [Act.put, List.setIfInBounds_toArray, List.set_cons_zero, List.set_cons_succ, i64_w, i32_w]
              rfl
            refine two_ (i := 8) (j := 12) (Ni := some 100) (Nj := some 104) #[true, true, true, true, true, true, true, true, true, true, true, true, false, false, true, true, true, true, true, true, false, false, false, false] #[true, true, true, true, true, true, true, true, false, true, true, true, true, false, true, true, true, true, true, true, false, false, false, false] rfl rfl rfl rfl (two_of HT_.out (by kernel_rfl)) (by decide) (by decide) (fun K hK => ?_) (fun K hK => ?_)
            · skip
              refine Kd.R_append_rows_step k38 (Rr := k38.K wa) (w0 := wd) wd.heap.size ?hw (.tmp 93) (.tmp 99) 35 38 (.agg #[.string ⟨#[]⟩, .int .i64 0]) 24 rfl Try.underlying35 info38 rfl (by decide) (by omega) v93 [] ((M.take i).map ofT) A1 i _ (fun g => wd.heap.size ≤ g) (fun _ => False) rfl rfl ho_ ?aR (fun x cs h => by rw [k38_open h]; exact k38_mkM _ _ _ _) (fun _ hk => hk.elim) (fun g hg => Nat.le_trans hb_.size hg) hb_ hb_.size ?aL ?_; (case hw => rfl); (case aR => exact Kd.C_below HP.out.1 hb_); (case aL => have := HE.out.2; have := HN1.out; simp only [List.length_nil]; omega)
              intro v100 wb ho2_ hb2_ hg2_ hn2_
              rw [List.nil_append] at ho2_
              refine hK.out _ _ ((HDd.out.grow (hb2_)).c1) (fun hHeld => ?_)
              clear hK K
              refine norm_ (a' := ?_) ?_ ?_
              rotate_left
              · show Act.put _ (some 100) _ = _
                simp only [Act.put, List.setIfInBounds_toArray, List.set_cons_zero, List.set_cons_succ, i64_w, i32_w]
                rfl
              refine one_ (i := 12) (N := some 104) #[true, true, true, true, true, true, true, true, true, true, true, true, true, false, true, true, true, true, true, true, false, false, false, false] rfl rfl (one_of HT_.out (by kernel_rfl)) (by decide) (fun K hK => ?_)
              refine value_ (w1 := ?_) (v := ?_) (by rfl) rfl ?_ ?_
              rotate_left 2
              · go_simp
                constructor
                · rfl
                · rfl
              refine hK.out _ _ ((HDd.out.grow (below_alloc hb2_ _)).c1) (fun hHeld => ?_)
              clear hK K
              refine norm_ (a' := ?_) ?_ ?_
              rotate_left
              · show Act.put _ (some 104) _ = _
                simp only [Act.put, List.setIfInBounds_toArray, List.set_cons_zero, List.set_cons_succ, i64_w, i32_w]
                rfl
              exact norm_ (by simp only [putAll, Act.put, List.setIfInBounds_toArray, List.set_cons_zero, List.set_cons_succ]) (hCont ⟨v93, v100, wb.heap.size⟩ _ ⟨Kd.R_below ho2_ (below_alloc (Below.refl _ _) _), below_alloc hb2_ _, elem_new wb key a⟩)
            · skip
              refine value_ (w1 := ?_) (v := ?_) (by rfl) rfl ?_ ?_
              rotate_left 2
              · go_simp
                constructor
                · rfl
                · rfl
              refine hK.out _ _ ((HDd.out.grow (below_alloc hb_ _)).c1) (fun hHeld => ?_)
              clear hK K
              refine norm_ (a' := ?_) ?_ ?_
              rotate_left
              · show Act.put _ (some 104) _ = _
                simp only [Act.put, List.setIfInBounds_toArray, List.set_cons_zero, List.set_cons_succ, i64_w, i32_w]
                rfl
              refine one_ (i := 8) (N := some 100) #[true, true, true, true, true, true, true, true, true, true, true, true, true, false, true, true, true, true, true, true, false, false, false, false] rfl rfl (one_of HT_.out (by kernel_rfl)) (by decide) (fun K hK => ?_)
              have hb1_ := below_alloc hb_ (.cells #[.string key, .int .i64 a] 38)
              refine Kd.R_append_rows_step k38 (Rr := k38.K (wa.alloc (.cells #[.string key, .int .i64 a] 38))) (w0 := wd) wd.heap.size ?hw (.tmp 93) (.tmp 99) 35 38 (.agg #[.string ⟨#[]⟩, .int .i64 0]) 24 rfl Try.underlying35 info38 rfl (by decide) (by omega) v93 [] ((M.take i).map ofT) A1 i _ (fun g => wd.heap.size ≤ g) (fun _ => False) rfl rfl (Kd.R_below ho_ (below_alloc (Below.refl _ _) _)) ?aR (fun x cs h => by rw [k38_open h]; exact k38_mkM _ _ _ _) (fun _ hk => hk.elim) (fun g hg => Nat.le_trans hb1_.size hg) hb1_ hb1_.size ?aL ?_; (case hw => rfl); (case aR => exact Kd.C_below HP.out.1 hb1_); (case aL => have := HE.out.2; have := HN1.out; simp only [List.length_nil]; omega)
              intro v100 wb ho2_ hb2_ hg2_ hn2_
              rw [List.nil_append] at ho2_
              refine hK.out _ _ ((HDd.out.grow (hb2_)).c1) (fun hHeld => ?_)
              clear hK K
              refine norm_ (a' := ?_) ?_ ?_
              rotate_left
              · show Act.put _ (some 100) _ = _
                simp only [Act.put, List.setIfInBounds_toArray, List.set_cons_zero, List.set_cons_succ, i64_w, i32_w]
                rfl
              exact norm_ (by simp only [putAll, Act.put, List.setIfInBounds_toArray, List.set_cons_zero, List.set_cons_succ]) (hCont ⟨v93, v100, wa.heap.size⟩ _ ⟨ho2_, hb2_, C_elem (elem_new wa key a) hg2_ ho_⟩)
          · skip
            refine value_ (w1 := ?_) (v := ?_) (by rfl) rfl ?_ ?_
            rotate_left 2
            · go_simp
              constructor
              · rfl
              · rfl
            refine hK.out _ _ ((HDd.out.grow (below_alloc (Below.refl _ _) _)).c1) (fun hHeld => ?_)
            clear hK K
            refine norm_ (a' := ?_) ?_ ?_
            rotate_left
            · show Act.put _ (some 104) _ = _
              simp only [Act.put, List.setIfInBounds_toArray, List.set_cons_zero, List.set_cons_succ, i64_w, i32_w]
              rfl
            refine one_ (i := 1) (N := some 93) #[true, true, true, true, true, true, true, true, false, true, true, true, true, false, true, true, true, true, true, true, false, false, false, false] rfl rfl (one_of HT_.out (by kernel_rfl)) (by decide) (fun K hK => ?_)
            have hb1_ := below_alloc (Below.refl wd.heap.size wd) (.cells #[.string key, .int .i64 a] 38)
            refine Kd.R_lit_step k38 wd.heap.size 38 ?hg (N := 93) ?hd (w0 := wd) (xs := ([] : List S38)) (inner := []) (ok := fun g => wd.heap.size ≤ g) (okp := fun _ => False) ?hr ?hp (fun _ hk => hk.elim) hb1_.size hb1_ hb1_.size (by simp) ?_; (case hd => rfl); (case hg => rfl); (case hr => first | (go_simp; done) | (go_simp; rfl)); (case hp => exact Reps.none _ _)
            intro v93 wa ho_ hb_ hg_ hn_
            refine hK.out _ _ ((HDd.out.grow (hb_)).c1) (fun hHeld => ?_)
            clear hK K
            refine norm_ (a' := ?_) ?_ ?_
            rotate_left
            · show Act.put _ (some 93) _ = _
              simp only [Act.put, List.setIfInBounds_toArray, List.set_cons_zero, List.set_cons_succ, i64_w, i32_w]
              rfl
            refine one_ (i := 8) (N := some 100) #[true, true, true, true, true, true, true, true, true, true, true, true, true, false, true, true, true, true, true, true, false, false, false, false] rfl rfl (one_of HT_.out (by kernel_rfl)) (by decide) (fun K hK => ?_)
            refine Kd.R_append_rows_step k38 (Rr := k38.K wa) (w0 := wd) wd.heap.size ?hw (.tmp 93) (.tmp 99) 35 38 (.agg #[.string ⟨#[]⟩, .int .i64 0]) 24 rfl Try.underlying35 info38 rfl (by decide) (by omega) v93 [] ((M.take i).map ofT) A1 i _ (fun g => wd.heap.size ≤ g) (fun _ => False) rfl rfl ho_ ?aR (fun x cs h => by rw [k38_open h]; exact k38_mkM _ _ _ _) (fun _ hk => hk.elim) (fun g hg => Nat.le_trans hb_.size hg) hb_ hb_.size ?aL ?_; (case hw => rfl); (case aR => exact Kd.C_below HP.out.1 hb_); (case aL => have := HE.out.2; have := HN1.out; simp only [List.length_nil]; omega)
            intro v100 wb ho2_ hb2_ hg2_ hn2_
            rw [List.nil_append] at ho2_
            refine hK.out _ _ ((HDd.out.grow (hb2_)).c1) (fun hHeld => ?_)
            clear hK K
            refine norm_ (a' := ?_) ?_ ?_
            rotate_left
            · show Act.put _ (some 100) _ = _
              simp only [Act.put, List.setIfInBounds_toArray, List.set_cons_zero, List.set_cons_succ, i64_w, i32_w]
              rfl
            exact norm_ (by simp only [putAll, Act.put, List.setIfInBounds_toArray, List.set_cons_zero, List.set_cons_succ]) (hCont ⟨v93, v100, wd.heap.size⟩ _ ⟨ho2_, hb2_, C_elem2 (elem_new wd key a) hg_ hg2_ hn_⟩)
        rintro ⟨v93, v100, g0⟩ wa ⟨ho_, hb_, hc_⟩
        simp only [putAll, Act.put, List.setIfInBounds_toArray, List.set_cons_zero, List.set_cons_succ]
        refine one_ (i := 13) (N := some 105) #[true, true, true, true, true, true, true, true, true, true, true, true, true, true, true, true, true, true, true, true, false, false, false, false] rfl rfl (one_of HT_.out (by kernel_rfl)) (by decide) (fun K hK => ?_)
        refine Kd.R_append_rows_step k38 (Rr := k38.K wa) (w0 := wd) wd.heap.size ?hw (.tmp 100) (.tmp 104) 35 38 (.agg #[.string ⟨#[]⟩, .int .i64 0]) 24 rfl Try.underlying35 info38 rfl (by decide) (by omega) v100 ((M.take i).map ofT) [⟨key, a⟩] (some ⟨g0, 0, none⟩) 1 _ (fun g => wd.heap.size ≤ g) (fun _ => False) rfl rfl ho_ ?aR (fun x cs h => by rw [k38_open h]; exact k38_mkM _ _ _ _) (fun _ hk => hk.elim) (fun g hg => Nat.le_trans hb_.size hg) hb_ hb_.size ?aL ?_; (case hw => rfl); (case aR => exact hc_); (case aL => have := HLT.out; omega)
        intro v105 wb ho2_ hb2_ hg2_ hn2_
        refine hK.out _ _ ((HDd.out.grow (hb2_)).c1) (fun hHeld => ?_)
        clear hK K
        refine norm_ (a' := ?_) ?_ ?_
        rotate_left
        · show Act.put _ (some 105) _ = _
          simp only [Act.put, List.setIfInBounds_toArray, List.set_cons_zero, List.set_cons_succ, i64_w, i32_w]
          rfl
        refine one_ (i := 20) (N := some 112) #[true, true, true, true, true, true, true, true, true, true, true, true, true, true, true, true, true, true, true, true, true, false, false, false] rfl rfl (one_of HT_.out (by kernel_rfl)) (by decide) (fun K hK => ?_)
        refine Kd.R_append_rows_step k38 (Rr := k38.K wb) (w0 := wd) wd.heap.size ?hw (.tmp 105) (.tmp 111) 35 38 (.agg #[.string ⟨#[]⟩, .int .i64 0]) 24 rfl Try.underlying35 info38 rfl (by decide) (by omega) v105 (((M.take i).map ofT) ++ [⟨key, a⟩]) ((M.drop i).map ofT) Ad (n1 - i) _ (fun g => wd.heap.size ≤ g) (fun _ => False) rfl rfl ho2_ ?aR (fun x cs h => by rw [k38_open h]; exact k38_mkM _ _ _ _) (fun _ hk => hk.elim) (fun g hg => Nat.le_trans hb2_.size hg) hb2_ hb2_.size ?aL ?_; (case hw => rfl); (case aR => exact Kd.C_below HP.out.2 hb2_); (case aL => have := HLT.out; have := HN1.out; rw [List.length_append, List.length_singleton]; omega)
        intro v112 wc ho3_ hb3_ hg3_ hn3_
        refine hK.out _ _ ((HDd.out.grow (hb3_)).c1) (fun hHeld => ?_)
        clear hK K
        refine norm_ (a' := ?_) ?_ ?_
        rotate_left
        · show Act.put _ (some 112) _ = _
          simp only [Act.put, List.setIfInBounds_toArray, List.set_cons_zero, List.set_cons_succ, i64_w, i32_w]
          rfl
        have hins : ((M.take i).map ofT) ++ [⟨key, a⟩] ++ (M.drop i).map ofT = (insL L key a).map ofT := by
          unfold insL
          rw [← HM.out.1, ← HE.out.1, List.map_append, List.map_cons, List.append_assoc]
          rfl
        rw [hins] at ho3_
        obtain ⟨A9, c9, e9⟩ := Kd.R_slice ho3_
        subst e9
        have HTN := Aside0.mk (HDd.out.turn hb3_ ho3_)
        generalize ((insL L key a).map ofT).length = n9 at HTN ho3_ ⊢
        have cE := (HDd.out.grow hb3_).c1
        have fE : wc.frozen? ⟨r, 1, none⟩ = false := blk_frozen (HDd.out.grow hb3_).hb 1
        refine pure_ (i := 21) (N := some 113) (v := ?_) (a' := ?_) #[true, true, true, true, true, true, true, true, true, true, true, true, true, true, true, true, true, true, true, true, true, true, false, false] rfl rfl (any_of HT_.out (by kernel_rfl)) (fun _ _ _ h => h) (Or.inl ⟨by rfl, ?_⟩) ?_ ?_
        rotate_left
        · intro w'
          go_simp
          first | done | with_reducible rfl
        rotate_left
        · simp only [Act.put, List.setIfInBounds_toArray, List.set_cons_zero, List.set_cons_succ, i64_w, i32_w]
          rfl
        refine pure_ (i := 22) (N := some 114) (v := ?_) (a' := ?_) #[true, true, true, true, true, true, true, true, true, true, true, true, true, true, true, true, true, true, true, true, true, true, true, false] rfl rfl (any_of HT_.out (by kernel_rfl)) (fun _ _ _ h => h) (Or.inl ⟨by rfl, ?_⟩) ?_ ?_
        rotate_left
        · intro w'
          go_simp
          first | done | with_reducible rfl
        rotate_left
        · simp only [Act.put, List.setIfInBounds_toArray, List.set_cons_zero, List.set_cons_succ, i64_w, i32_w]
          rfl
        refine last_ (i := 23) (N := none) #[true, true, true, true, true, true, true, true, true, true, true, true, true, true, true, true, true, true, true, true, true, true, true, true] rfl rfl (one_of HT_.out (by kernel_rfl)) (by decide) (fun K hK => ?_)
        refine skip_ (w1 := ?_) (by rfl) rfl ?_ ?_
        rotate_left
        · go_simp
          rfl
        refine hK.out _ _ ?_
        clear hK K
        refine done_ (done_of HT_.out (by kernel_rfl)) ?_
        clear ho_ hb_ hc_ ho2_ hb2_ hg2_ hn2_ ho3_ hb3_ hg3_ hn3_ hins
        go_wp2
        go_ret
        obtain ⟨q1, q2, q3⟩ := HTN.out
        exact ⟨rfl, A9, n9, c9, q1, grown_trans HGd.out.1 q2, Src.trans HGd.out.2 HGd.out.1.size q3⟩
      have hib : decide (i < n1) = true := decide_eq_true hi
      obtain ⟨ad, t, hA, ht, d0, d1⟩ := HD.out.at i hi
      have HN := Aside0.mk (ah_at ht (key, a))
      have HIL := Aside0.mk hi
      have hw1 : Aside0 (wrap64 ((i : Int) + 1) = ((i + 1 : Nat) : Int)) := ⟨by have := HN1.out; rw [wrap64_is (by omega) (by omega)]; omega⟩
      have hir : (0 : Int) ≤ (i : Int) := by omega
      have hil : (i : Int) < (n1 : Int) := by omega
      have hbl : Op.bytesLess t.1.toList key.toList = bl t.1.data.toList key.data.toList := by rw [bl_eq, ByteArray.toList_eq, ByteArray.toList_eq]
      by_cases hk : t.2 < a
      · have hkb : decide (t.2 < a) = true := decide_eq_true hk
        have HR : Aside0 (i + 1 + ah (key, a) (M.drop (i + 1)) = ah (key, a) M) := ⟨by have h1 := HN.out; rw [if_pos (.inl hk)] at h1; have := HI.out.2; omega⟩
        clear hk ht hi hbl
        go_wp2
        go_roundg (gk - 1)
        case measure => have := HI.out.1; have := HIL.out; omega
        case rel => exact ⟨i + 1, by first | rw [hw1.out] | (push_cast; rfl), ⟨by have := HI.out.1; have := HIL.out; omega, HR.out⟩, ⟨rfl⟩⟩
      · have hkb : decide (t.2 < a) = false := decide_eq_false hk
        by_cases hq : t.2 = a
        · have hqb : (t.2 == a) = true := beq_iff_eq.2 hq
          cases hbb : Op.bytesLess t.1.toList key.toList with
          | true =>
            have HR : Aside0 (i + 1 + ah (key, a) (M.drop (i + 1)) = ah (key, a) M) := ⟨by have h1 := HN.out; rw [if_pos (.inr ⟨hq, by rw [← hbl, hbb]⟩)] at h1; have := HI.out.2; omega⟩
            clear hk ht hi hbl hq
            go_wp2
            go_roundg (gk - 1)
            case measure => have := HI.out.1; have := HIL.out; omega
            case rel => exact ⟨i + 1, by first | rw [hw1.out] | (push_cast; rfl), ⟨by have := HI.out.1; have := HIL.out; omega, HR.out⟩, ⟨rfl⟩⟩
          | false =>
            have HE : Aside0 (i = ah (key, a) M ∧ i ≤ n1) := ⟨endP.out (by rw [HN.out, if_neg]; rintro (h | ⟨h1, h2⟩); exact hk h; rw [← hbl, hbb] at h2; cases h2), by omega⟩
            clear hk ht hi hbl hq
            go_wp2
            try clear hA
            have HDd : Aside0 (DA wr.drew r time A1 n1 k1 M) := ⟨HD.out.grow (pw_below_drewN (Below.refl _ _) 1)⟩
            have HGd : Aside0 (w1.grownBy wr.drew (some r) ∧ Src w1 A n A1 n1) := ⟨grown_trans HG.out.1 (grown_below (pw_below_drewN (Below.refl _ _) 1) _), HG.out.2⟩
            have hdrew : ∃ wd, wd = wr.drew := ⟨_, rfl⟩
            obtain ⟨wd, hwd⟩ := hdrew
            rw [← hwd] at HDd HGd
            have cd := HDd.out.c1
            have HP := Aside0.mk (HDd.out.parts i HE.out.2)
            have hin : i ≤ n1 := HE.out.2
            have hini : (i : Int) ≤ (n1 : Int) := by omega
            have hin0 : (0 : Int) ≤ (i : Int) := by omega
            have hic : i ≤ k1 := Nat.le_trans hin HDd.out.nc
            have HLT : Aside0 (((M.take i).map ofT).length ≤ 1000 ∧ ((M.drop i).map ofT).length ≤ 1000) := ⟨by have := HM.out.2; rw [List.length_map, List.length_map, List.length_take, List.length_drop]; omega⟩
            generalize hAd : (if k1 = i then A1 else A1.map (·.add (i * 2))) = Ad at HP
            refine start_ (n := 24) (S := fun w' => w'.cell? ⟨r, 1, none⟩ = some (.slice A1 n1 k1)) (ds := [23]) #[false, false, false, false, false, false, false, false, false, false, false, false, false, false, false, false, false, false, false, false, false, false, false, false] (by kernel_rfl) rfl rfl (by rw [← hwd]; exact cd) (fun hHeld => ?_); refine with_tabW tabU bitsU (fun HT_ HW_ => ?_)
            rw [← hwd] at hHeld ⊢
            clear hwd
            refine pure_ (i := 0) (N := some 92) (v := ?_) (a' := ?_) #[true, false, false, false, false, false, false, false, false, false, false, false, false, false, false, false, false, false, false, false, false, false, false, false] rfl rfl (any_of HT_.out (by kernel_rfl)) (fun _ _ _ h => h) (Or.inl ⟨by rfl, ?_⟩) ?_ ?_
            rotate_left
            · intro w'
              go_simp
              first | done | with_reducible rfl
            rotate_left
            · simp only [Act.put, List.setIfInBounds_toArray, List.set_cons_zero, List.set_cons_succ, i64_w, i32_w]
              rfl
            refine pure_ (i := 2) (N := some 94) (v := ?_) (a' := ?_) #[true, false, true, false, false, false, false, false, false, false, false, false, false, false, false, false, false, false, false, false, false, false, false, false] rfl rfl (any_of HT_.out (by kernel_rfl)) (fun _ _ _ h => h) (Or.inl ⟨by rfl, ?_⟩) ?_ ?_
            rotate_left
            · intro w'
              go_simp
              first | done | with_reducible rfl
            rotate_left
            · simp only [Act.put, List.setIfInBounds_toArray, List.set_cons_zero, List.set_cons_succ, i64_w, i32_w]
              rfl
            refine pure_ (i := 3) (N := some 95) (v := ?_) (a' := ?_) #[true, false, true, true, false, false, false, false, false, false, false, false, false, false, false, false, false, false, false, false, false, false, false, false] rfl rfl (any_of HT_.out (by kernel_rfl)) (fun _ _ _ h => h) (Or.inl ⟨by rfl, ?_⟩) ?_ ?_
            rotate_left
            · intro w'
              go_simp
              first | done | with_reducible rfl
            rotate_left
            · simp only [Act.put, List.setIfInBounds_toArray, List.set_cons_zero, List.set_cons_succ, i64_w, i32_w]
              rfl
            refine pure_ (i := 4) (N := some 96) (v := ?_) (a' := ?_) #[true, false, true, true, true, false, false, false, false, false, false, false, false, false, false, false, false, false, false, false, false, false, false, false] rfl rfl (any_of HT_.out (by kernel_rfl)) (fun _ _ _ h => h) (Or.inl ⟨by rfl, ?_⟩) ?_ ?_
            rotate_left
            · intro w'
              go_simp
              first | done | with_reducible rfl
            rotate_left
            · simp only [Act.put, List.setIfInBounds_toArray, List.set_cons_zero, List.set_cons_succ, i64_w, i32_w]
              rfl
            refine take_ (i := 5) (N := some 97) (v := ?_) (a' := ?_) #[true, false, true, true, true, true, false, false, false, false, false, false, false, false, false, false, false, false, false, false, false, false, false, false] rfl rfl (take_ofW HT_.out HW_.out (by kernel_rfl)) (fun _ _ _ h => h) (Or.inl ⟨by rfl, ?_⟩) hHeld ?_ ?_
            rotate_left
            · intro w' s0
              go_simp
              first | done | with_reducible rfl
            rotate_left
            · simp only [Act.put, List.setIfInBounds_toArray, List.set_cons_zero, List.set_cons_succ, i64_w, i32_w]
              rfl
            refine pure_ (i := 6) (N := some 98) (v := ?_) (a' := ?_) #[true, false, true, true, true, true, true, false, false, false, false, false, false, false, false, false, false, false, false, false, false, false, false, false] rfl rfl (any_of HT_.out (by kernel_rfl)) (fun _ _ _ h => h) (Or.inl ⟨by rfl, ?_⟩) ?_ ?_
            rotate_left
            · intro w'
              go_simp
              first | done | with_reducible rfl
            rotate_left
            · simp only [Act.put, List.setIfInBounds_toArray, List.set_cons_zero, List.set_cons_succ, i64_w, i32_w]
              rfl
            refine pure_ (i := 7) (N := some 99) (v := ?_) (a' := ?_) #[true, false, true, true, true, true, true, true, false, false, false, false, false, false, false, false, false, false, false, false, false, false, false, false] rfl rfl (any_of HT_.out (by kernel_rfl)) (fun _ _ _ h => h) (Or.inl ⟨by rfl, ?_⟩) ?_ ?_
            rotate_left
            · intro w'
              go_simp
              first | done | with_reducible rfl
            rotate_left
            · simp only [Act.put, List.setIfInBounds_toArray, List.set_cons_zero, List.set_cons_succ, i64_w, i32_w]
              rfl
            refine pure_ (i := 9) (N := some 101) (v := ?_) (a' := ?_) #[true, false, true, true, true, true, true, true, false, true, false, false, false, false, false, false, false, false, false, false, false, false, false, false] rfl rfl (any_of HT_.out (by kernel_rfl)) (fun _ _ _ h => h) (Or.inl ⟨by rfl, ?_⟩) ?_ ?_
            rotate_left
            · intro w'
              go_simp
              first | done | with_reducible rfl
            rotate_left
            · simp only [Act.put, List.setIfInBounds_toArray, List.set_cons_zero, List.set_cons_succ, i64_w, i32_w]
              rfl
            refine pure_ (i := 10) (N := some 102) (v := ?_) (a' := ?_) #[true, false, true, true, true, true, true, true, false, true, true, false, false, false, false, false, false, false, false, false, false, false, false, false] rfl rfl (any_of HT_.out (by kernel_rfl)) (fun _ _ _ h => h) (Or.inl ⟨by rfl, ?_⟩) ?_ ?_
            rotate_left
            · intro w'
              go_simp
              first | done | with_reducible rfl
            rotate_left
            · simp only [Act.put, List.setIfInBounds_toArray, List.set_cons_zero, List.set_cons_succ, i64_w, i32_w]
              rfl
            refine pure_ (i := 11) (N := some 103) (v := ?_) (a' := ?_) #[true, false, true, true, true, true, true, true, false, true, true, true, false, false, false, false, false, false, false, false, false, false, false, false] rfl rfl (any_of HT_.out (by kernel_rfl)) (fun _ _ _ h => h) (Or.inl ⟨by rfl, ?_⟩) ?_ ?_
            rotate_left
            · intro w'
              go_simp
              first | done | with_reducible rfl
            rotate_left
            · simp only [Act.put, List.setIfInBounds_toArray, List.set_cons_zero, List.set_cons_succ, i64_w, i32_w]
              rfl
            refine pure_ (i := 14) (N := some 106) (v := ?_) (a' := ?_) #[true, false, true, true, true, true, true, true, false, true, true, true, false, false, true, false, false, false, false, false, false, false, false, false] rfl rfl (any_of HT_.out (by kernel_rfl)) (fun _ _ _ h => h) (Or.inl ⟨by rfl, ?_⟩) ?_ ?_
            rotate_left
            · intro w'
              go_simp
              first | done | with_reducible rfl
            rotate_left
            · simp only [Act.put, List.setIfInBounds_toArray, List.set_cons_zero, List.set_cons_succ, i64_w, i32_w]
              rfl
            refine pure_ (i := 15) (N := some 107) (v := ?_) (a' := ?_) #[true, false, true, true, true, true, true, true, false, true, true, true, false, false, true, true, false, false, false, false, false, false, false, false] rfl rfl (any_of HT_.out (by kernel_rfl)) (fun _ _ _ h => h) (Or.inl ⟨by rfl, ?_⟩) ?_ ?_
            rotate_left
            · intro w'
              go_simp
              first | done | with_reducible rfl
            rotate_left
            · simp only [Act.put, List.setIfInBounds_toArray, List.set_cons_zero, List.set_cons_succ, i64_w, i32_w]
              rfl
            refine pure_ (i := 16) (N := some 108) (v := ?_) (a' := ?_) #[true, false, true, true, true, true, true, true, false, true, true, true, false, false, true, true, true, false, false, false, false, false, false, false] rfl rfl (any_of HT_.out (by kernel_rfl)) (fun _ _ _ h => h) (Or.inl ⟨by rfl, ?_⟩) ?_ ?_
            rotate_left
            · intro w'
              go_simp
              first | done | with_reducible rfl
            rotate_left
            · simp only [Act.put, List.setIfInBounds_toArray, List.set_cons_zero, List.set_cons_succ, i64_w, i32_w]
              rfl
            refine take_ (i := 17) (N := some 109) (v := ?_) (a' := ?_) #[true, false, true, true, true, true, true, true, false, true, true, true, false, false, true, true, true, true, false, false, false, false, false, false] rfl rfl (take_ofW HT_.out HW_.out (by kernel_rfl)) (fun _ _ _ h => h) (Or.inl ⟨by rfl, ?_⟩) hHeld ?_ ?_
            rotate_left
            · intro w' s0
              go_simp
              first | done | with_reducible rfl
            rotate_left
            · simp only [Act.put, List.setIfInBounds_toArray, List.set_cons_zero, List.set_cons_succ, i64_w, i32_w]
              rfl
            refine pure_ (i := 18) (N := some 110) (v := ?_) (a' := ?_) #[true, false, true, true, true, true, true, true, false, true, true, true, false, false, true, true, true, true, true, false, false, false, false, false] rfl rfl (any_of HT_.out (by kernel_rfl)) (fun _ _ _ h => h) (Or.inl ⟨by rfl, ?_⟩) ?_ ?_
            rotate_left
            · intro w'
              go_simp
              first | done | with_reducible rfl
            rotate_left
            · simp only [Act.put, List.setIfInBounds_toArray, List.set_cons_zero, List.set_cons_succ, i64_w, i32_w]
              rfl
            refine pure_ (i := 19) (N := some 111) (v := ?_) (a' := ?_) #[true, false, true, true, true, true, true, true, false, true, true, true, false, false, true, true, true, true, true, true, false, false, false, false] rfl rfl (any_of HT_.out (by kernel_rfl)) (fun _ _ _ h => h) (Or.inl ⟨by rfl, ?_⟩) ?_ ?_
            rotate_left
            · intro w'
              go_simp
              first | done | with_reducible rfl
            rotate_left
            · simp only [Act.put, List.setIfInBounds_toArray, List.set_cons_zero, List.set_cons_succ, i64_w, i32_w]
              rfl
            refine join_ (σ := Value × Value × Nat) 5 #[true, true, true, true, true, true, true, true, true, true, true, true, true, false, true, true, true, true, true, true, false, false, false, false] (fun s => [(93, s.1), (100, s.2.1), (104, .slice (some ⟨s.2.2, 0, none⟩) 1 1)]) (J12 wd key a ((M.take i).map ofT)) ?_ ?_
            rotate_left
            · intro hCont
              refine two_ (i := 1) (j := 12) (Ni := some 93) (Nj := some 104) #[true, true, true, true, true, true, true, true, false, true, true, true, false, false, true, true, true, true, true, true, false, false, false, false] #[true, false, true, true, true, true, true, true, false, true, true, true, true, false, true, true, true, true, true, true, false, false, false, false] rfl rfl rfl rfl (two_of HT_.out (by kernel_rfl)) (by decide) (by decide) (fun K hK => ?_) (fun K hK => ?_)
              · skip
                refine Kd.R_lit_step k38 wd.heap.size 38 ?hg (N := 93) ?hd (w0 := wd) (xs := ([] : List S38)) (inner := []) (ok := fun g => wd.heap.size ≤ g) (okp := fun _ => False) ?hr ?hp (fun _ hk => hk.elim) (Nat.le_refl _) (Below.refl _ _) (Nat.le_refl _) (by simp) ?_; (case hd => rfl); (case hg => rfl); (case hr => first | (go_simp; done) | (go_simp; rfl)); (case hp => exact Reps.none _ _)
                intro v93 wa ho_ hb_ hg_ hn_
                refine hK.out _ _ ((HDd.out.grow (hb_)).c1) (fun hHeld => ?_)
                clear hK K
                refine norm_ (a' := ?_) ?_ ?_
                rotate_left
                · show Act.put _ (some 93) _ = _
                  simp only [Act.put, List.setIfInBounds_toArray, List.set_cons_zero, List.set_cons_succ, i64_w, i32_w]
                  rfl
                refine two_ (i := 8) (j := 12) (Ni := some 100) (Nj := some 104) #[true, true, true, true, true, true, true, true, true, true, true, true, false, false, true, true, true, true, true, true, false, false, false, false] #[true, true, true, true, true, true, true, true, false, true, true, true, true, false, true, true, true, true, true, true, false, false, false, false] rfl rfl rfl rfl (two_of HT_.out (by kernel_rfl)) (by decide) (by decide) (fun K hK => ?_) (fun K hK => ?_)
                · skip
                  refine Kd.R_append_rows_step k38 (Rr := k38.K wa) (w0 := wd) wd.heap.size ?hw (.tmp 93) (.tmp 99) 35 38 (.agg #[.string ⟨#[]⟩, .int .i64 0]) 24 rfl Try.underlying35 info38 rfl (by decide) (by omega) v93 [] ((M.take i).map ofT) A1 i _ (fun g => wd.heap.size ≤ g) (fun _ => False) rfl rfl ho_ ?aR (fun x cs h => by rw [k38_open h]; exact k38_mkM _ _ _ _) (fun _ hk => hk.elim) (fun g hg => Nat.le_trans hb_.size hg) hb_ hb_.size ?aL ?_; (case hw => rfl); (case aR => exact Kd.C_below HP.out.1 hb_); (case aL => have := HE.out.2; have := HN1.out; simp only [List.length_nil]; omega)
                  intro v100 wb ho2_ hb2_ hg2_ hn2_
                  rw [List.nil_append] at ho2_
                  refine hK.out _ _ ((HDd.out.grow (hb2_)).c1) (fun hHeld => ?_)
                  clear hK K
                  refine norm_ (a' := ?_) ?_ ?_
                  rotate_left
                  · show Act.put _ (some 100) _ = _
                    simp only [Act.put, List.setIfInBounds_toArray, List.set_cons_zero, List.set_cons_succ, i64_w, i32_w]
                    rfl
                  refine one_ (i := 12) (N := some 104) #[true, true, true, true, true, true, true, true, true, true, true, true, true, false, true, true, true, true, true, true, false, false, false, false] rfl rfl (one_of HT_.out (by kernel_rfl)) (by decide) (fun K hK => ?_)
                  refine value_ (w1 := ?_) (v := ?_) (by rfl) rfl ?_ ?_
                  rotate_left 2
                  · go_simp
                    constructor
                    · rfl
                    · rfl
                  refine hK.out _ _ ((HDd.out.grow (below_alloc hb2_ _)).c1) (fun hHeld => ?_)
                  clear hK K
                  refine norm_ (a' := ?_) ?_ ?_
                  rotate_left
                  · show Act.put _ (some 104) _ = _
                    simp only [Act.put, List.setIfInBounds_toArray, List.set_cons_zero, List.set_cons_succ, i64_w, i32_w]
                    rfl
                  exact norm_ (by simp only [putAll, Act.put, List.setIfInBounds_toArray, List.set_cons_zero, List.set_cons_succ]) (hCont ⟨v93, v100, wb.heap.size⟩ _ ⟨Kd.R_below ho2_ (below_alloc (Below.refl _ _) _), below_alloc hb2_ _, elem_new wb key a⟩)
                · skip
                  refine value_ (w1 := ?_) (v := ?_) (by rfl) rfl ?_ ?_
                  rotate_left 2
                  · go_simp
                    constructor
                    · rfl
                    · rfl
                  refine hK.out _ _ ((HDd.out.grow (below_alloc hb_ _)).c1) (fun hHeld => ?_)
                  clear hK K
                  refine norm_ (a' := ?_) ?_ ?_
                  rotate_left
                  · show Act.put _ (some 104) _ = _
                    simp only [Act.put, List.setIfInBounds_toArray, List.set_cons_zero, List.set_cons_succ, i64_w, i32_w]
                    rfl
                  refine one_ (i := 8) (N := some 100) #[true, true, true, true, true, true, true, true, true, true, true, true, true, false, true, true, true, true, true, true, false, false, false, false] rfl rfl (one_of HT_.out (by kernel_rfl)) (by decide) (fun K hK => ?_)
                  have hb1_ := below_alloc hb_ (.cells #[.string key, .int .i64 a] 38)
                  refine Kd.R_append_rows_step k38 (Rr := k38.K (wa.alloc (.cells #[.string key, .int .i64 a] 38))) (w0 := wd) wd.heap.size ?hw (.tmp 93) (.tmp 99) 35 38 (.agg #[.string ⟨#[]⟩, .int .i64 0]) 24 rfl Try.underlying35 info38 rfl (by decide) (by omega) v93 [] ((M.take i).map ofT) A1 i _ (fun g => wd.heap.size ≤ g) (fun _ => False) rfl rfl (Kd.R_below ho_ (below_alloc (Below.refl _ _) _)) ?aR (fun x cs h => by rw [k38_open h]; exact k38_mkM _ _ _ _) (fun _ hk => hk.elim) (fun g hg => Nat.le_trans hb1_.size hg) hb1_ hb1_.size ?aL ?_; (case hw => rfl); (case aR => exact Kd.C_below HP.out.1 hb1_); (case aL => have := HE.out.2; have := HN1.out; simp only [List.length_nil]; omega)
                  intro v100 wb ho2_ hb2_ hg2_ hn2_
                  rw [List.nil_append] at ho2_
                  refine hK.out _ _ ((HDd.out.grow (hb2_)).c1) (fun hHeld => ?_)
                  clear hK K
                  refine norm_ (a' := ?_) ?_ ?_
                  rotate_left
                  · show Act.put _ (some 100) _ = _
                    simp only [Act.put, List.setIfInBounds_toArray, List.set_cons_zero, List.set_cons_succ, i64_w, i32_w]
                    rfl
                  exact norm_ (by simp only [putAll, Act.put, List.setIfInBounds_toArray, List.set_cons_zero, List.set_cons_succ]) (hCont ⟨v93, v100, wa.heap.size⟩ _ ⟨ho2_, hb2_, C_elem (elem_new wa key a) hg2_ ho_⟩)
              · skip
                refine value_ (w1 := ?_) (v := ?_) (by rfl) rfl ?_ ?_
                rotate_left 2
                · go_simp
                  constructor
                  · rfl
                  · rfl
                refine hK.out _ _ ((HDd.out.grow (below_alloc (Below.refl _ _) _)).c1) (fun hHeld => ?_)
                clear hK K
                refine norm_ (a' := ?_) ?_ ?_
                rotate_left
                · show Act.put _ (some 104) _ = _
                  simp only [Act.put, List.setIfInBounds_toArray, List.set_cons_zero, List.set_cons_succ, i64_w, i32_w]
                  rfl
                refine one_ (i := 1) (N := some 93) #[true, true, true, true, true, true, true, true, false, true, true, true, true, false, true, true, true, true, true, true, false, false, false, false] rfl rfl (one_of HT_.out (by kernel_rfl)) (by decide) (fun K hK => ?_)
                have hb1_ := below_alloc (Below.refl wd.heap.size wd) (.cells #[.string key, .int .i64 a] 38)
                refine Kd.R_lit_step k38 wd.heap.size 38 ?hg (N := 93) ?hd (w0 := wd) (xs := ([] : List S38)) (inner := []) (ok := fun g => wd.heap.size ≤ g) (okp := fun _ => False) ?hr ?hp (fun _ hk => hk.elim) hb1_.size hb1_ hb1_.size (by simp) ?_; (case hd => rfl); (case hg => rfl); (case hr => first | (go_simp; done) | (go_simp; rfl)); (case hp => exact Reps.none _ _)
                intro v93 wa ho_ hb_ hg_ hn_
                refine hK.out _ _ ((HDd.out.grow (hb_)).c1) (fun hHeld => ?_)
                clear hK K
                refine norm_ (a' := ?_) ?_ ?_
                rotate_left
                · show Act.put _ (some 93) _ = _
                  simp only [Act.put, List.setIfInBounds_toArray, List.set_cons_zero, List.set_cons_succ, i64_w, i32_w]
                  rfl
                refine one_ (i := 8) (N := some 100) #[true, true, true, true, true, true, true, true, true, true, true, true, true, false, true, true, true, true, true, true, false, false, false, false] rfl rfl (one_of HT_.out (by kernel_rfl)) (by decide) (fun K hK => ?_)
                refine Kd.R_append_rows_step k38 (Rr := k38.K wa) (w0 := wd) wd.heap.size ?hw (.tmp 93) (.tmp 99) 35 38 (.agg #[.string ⟨#[]⟩, .int .i64 0]) 24 rfl Try.underlying35 info38 rfl (by decide) (by omega) v93 [] ((M.take i).map ofT) A1 i _ (fun g => wd.heap.size ≤ g) (fun _ => False) rfl rfl ho_ ?aR (fun x cs h => by rw [k38_open h]; exact k38_mkM _ _ _ _) (fun _ hk => hk.elim) (fun g hg => Nat.le_trans hb_.size hg) hb_ hb_.size ?aL ?_; (case hw => rfl); (case aR => exact Kd.C_below HP.out.1 hb_); (case aL => have := HE.out.2; have := HN1.out; simp only [List.length_nil]; omega)
                intro v100 wb ho2_ hb2_ hg2_ hn2_
                rw [List.nil_append] at ho2_
                refine hK.out _ _ ((HDd.out.grow (hb2_)).c1) (fun hHeld => ?_)
                clear hK K
                refine norm_ (a' := ?_) ?_ ?_
                rotate_left
                · show Act.put _ (some 100) _ = _
                  simp only [Act.put, List.setIfInBounds_toArray, List.set_cons_zero, List.set_cons_succ, i64_w, i32_w]
                  rfl
                exact norm_ (by simp only [putAll, Act.put, List.setIfInBounds_toArray, List.set_cons_zero, List.set_cons_succ]) (hCont ⟨v93, v100, wd.heap.size⟩ _ ⟨ho2_, hb2_, C_elem2 (elem_new wd key a) hg_ hg2_ hn_⟩)
            rintro ⟨v93, v100, g0⟩ wa ⟨ho_, hb_, hc_⟩
            simp only [putAll, Act.put, List.setIfInBounds_toArray, List.set_cons_zero, List.set_cons_succ]
            refine one_ (i := 13) (N := some 105) #[true, true, true, true, true, true, true, true, true, true, true, true, true, true, true, true, true, true, true, true, false, false, false, false] rfl rfl (one_of HT_.out (by kernel_rfl)) (by decide) (fun K hK => ?_)
            refine Kd.R_append_rows_step k38 (Rr := k38.K wa) (w0 := wd) wd.heap.size ?hw (.tmp 100) (.tmp 104) 35 38 (.agg #[.string ⟨#[]⟩, .int .i64 0]) 24 rfl Try.underlying35 info38 rfl (by decide) (by omega) v100 ((M.take i).map ofT) [⟨key, a⟩] (some ⟨g0, 0, none⟩) 1 _ (fun g => wd.heap.size ≤ g) (fun _ => False) rfl rfl ho_ ?aR (fun x cs h => by rw [k38_open h]; exact k38_mkM _ _ _ _) (fun _ hk => hk.elim) (fun g hg => Nat.le_trans hb_.size hg) hb_ hb_.size ?aL ?_; (case hw => rfl); (case aR => exact hc_); (case aL => have := HLT.out; omega)
            intro v105 wb ho2_ hb2_ hg2_ hn2_
            refine hK.out _ _ ((HDd.out.grow (hb2_)).c1) (fun hHeld => ?_)
            clear hK K
            refine norm_ (a' := ?_) ?_ ?_
            rotate_left
            · show Act.put _ (some 105) _ = _
              simp only [Act.put, List.setIfInBounds_toArray, List.set_cons_zero, List.set_cons_succ, i64_w, i32_w]
              rfl
            refine one_ (i := 20) (N := some 112) #[true, true, true, true, true, true, true, true, true, true, true, true, true, true, true, true, true, true, true, true, true, false, false, false] rfl rfl (one_of HT_.out (by kernel_rfl)) (by decide) (fun K hK => ?_)
            refine Kd.R_append_rows_step k38 (Rr := k38.K wb) (w0 := wd) wd.heap.size ?hw (.tmp 105) (.tmp 111) 35 38 (.agg #[.string ⟨#[]⟩, .int .i64 0]) 24 rfl Try.underlying35 info38 rfl (by decide) (by omega) v105 (((M.take i).map ofT) ++ [⟨key, a⟩]) ((M.drop i).map ofT) Ad (n1 - i) _ (fun g => wd.heap.size ≤ g) (fun _ => False) rfl rfl ho2_ ?aR (fun x cs h => by rw [k38_open h]; exact k38_mkM _ _ _ _) (fun _ hk => hk.elim) (fun g hg => Nat.le_trans hb2_.size hg) hb2_ hb2_.size ?aL ?_; (case hw => rfl); (case aR => exact Kd.C_below HP.out.2 hb2_); (case aL => have := HLT.out; have := HN1.out; rw [List.length_append, List.length_singleton]; omega)
            intro v112 wc ho3_ hb3_ hg3_ hn3_
            refine hK.out _ _ ((HDd.out.grow (hb3_)).c1) (fun hHeld => ?_)
            clear hK K
            refine norm_ (a' := ?_) ?_ ?_
            rotate_left
            · show Act.put _ (some 112) _ = _
              simp only [Act.put, List.setIfInBounds_toArray, List.set_cons_zero, List.set_cons_succ, i64_w, i32_w]
              rfl
            have hins : ((M.take i).map ofT) ++ [⟨key, a⟩] ++ (M.drop i).map ofT = (insL L key a).map ofT := by
              unfold insL
              rw [← HM.out.1, ← HE.out.1, List.map_append, List.map_cons, List.append_assoc]
              rfl
            rw [hins] at ho3_
            obtain ⟨A9, c9, e9⟩ := Kd.R_slice ho3_
            subst e9
            have HTN := Aside0.mk (HDd.out.turn hb3_ ho3_)
            generalize ((insL L key a).map ofT).length = n9 at HTN ho3_ ⊢
            have cE := (HDd.out.grow hb3_).c1
            have fE : wc.frozen? ⟨r, 1, none⟩ = false := blk_frozen (HDd.out.grow hb3_).hb 1
            refine pure_ (i := 21) (N := some 113) (v := ?_) (a' := ?_) #[true, true, true, true, true, true, true, true, true, true, true, true, true, true, true, true, true, true, true, true, true, true, false, false] rfl rfl (any_of HT_.out (by kernel_rfl)) (fun _ _ _ h => h) (Or.inl ⟨by rfl, ?_⟩) ?_ ?_
            rotate_left
            · intro w'
              go_simp
              first | done | with_reducible rfl
            rotate_left
            · simp only [Act.put, List.setIfInBounds_toArray, List.set_cons_zero, List.set_cons_succ, i64_w, i32_w]
              rfl
            refine pure_ (i := 22) (N := some 114) (v := ?_) (a' := ?_) #[true, true, true, true, true, true, true, true, true, true, true, true, true, true, true, true, true, true, true, true, true, true, true, false] rfl rfl (any_of HT_.out (by kernel_rfl)) (fun _ _ _ h => h) (Or.inl ⟨by rfl, ?_⟩) ?_ ?_
            rotate_left
            · intro w'
              go_simp
              first | done | with_reducible rfl
            rotate_left
            · simp only [Act.put, List.setIfInBounds_toArray, List.set_cons_zero, List.set_cons_succ, i64_w, i32_w]
              rfl
            refine last_ (i := 23) (N := none) #[true, true, true, true, true, true, true, true, true, true, true, true, true, true, true, true, true, true, true, true, true, true, true, true] rfl rfl (one_of HT_.out (by kernel_rfl)) (by decide) (fun K hK => ?_)
            refine skip_ (w1 := ?_) (by rfl) rfl ?_ ?_
            rotate_left
            · go_simp
              rfl
            refine hK.out _ _ ?_
            clear hK K
            refine done_ (done_of HT_.out (by kernel_rfl)) ?_
            clear ho_ hb_ hc_ ho2_ hb2_ hg2_ hn2_ ho3_ hb3_ hg3_ hn3_ hins
            go_wp2
            go_ret
            obtain ⟨q1, q2, q3⟩ := HTN.out
            exact ⟨rfl, A9, n9, c9, q1, grown_trans HGd.out.1 q2, Src.trans HGd.out.2 HGd.out.1.size q3⟩
        · have hqb : (t.2 == a) = false := beq_eq_false_iff_ne.2 hq
          have HE : Aside0 (i = ah (key, a) M ∧ i ≤ n1) := ⟨endP.out (by rw [HN.out, if_neg]; rintro (h | ⟨h1, h2⟩); exact hk h; exact hq h1), by omega⟩
          clear hk ht hi hbl hq
          go_wp2
          try clear hA
          have HDd : Aside0 (DA wr.drew r time A1 n1 k1 M) := ⟨HD.out.grow (pw_below_drewN (Below.refl _ _) 1)⟩
          have HGd : Aside0 (w1.grownBy wr.drew (some r) ∧ Src w1 A n A1 n1) := ⟨grown_trans HG.out.1 (grown_below (pw_below_drewN (Below.refl _ _) 1) _), HG.out.2⟩
          have hdrew : ∃ wd, wd = wr.drew := ⟨_, rfl⟩
          obtain ⟨wd, hwd⟩ := hdrew
          rw [← hwd] at HDd HGd
          have cd := HDd.out.c1
          have HP := Aside0.mk (HDd.out.parts i HE.out.2)
          have hin : i ≤ n1 := HE.out.2
          have hini : (i : Int) ≤ (n1 : Int) := by omega
          have hin0 : (0 : Int) ≤ (i : Int) := by omega
          have hic : i ≤ k1 := Nat.le_trans hin HDd.out.nc
          have HLT : Aside0 (((M.take i).map ofT).length ≤ 1000 ∧ ((M.drop i).map ofT).length ≤ 1000) := ⟨by have := HM.out.2; rw [List.length_map, List.length_map, List.length_take, List.length_drop]; omega⟩
          generalize hAd : (if k1 = i then A1 else A1.map (·.add (i * 2))) = Ad at HP
          refine start_ (n := 24) (S := fun w' => w'.cell? ⟨r, 1, none⟩ = some (.slice A1 n1 k1)) (ds := [23]) #[false, false, false, false, false, false, false, false, false, false, false, false, false, false, false, false, false, false, false, false, false, false, false, false] (by kernel_rfl) rfl rfl (by rw [← hwd]; exact cd) (fun hHeld => ?_); refine with_tabW tabU bitsU (fun HT_ HW_ => ?_)
          rw [← hwd] at hHeld ⊢
          clear hwd
          refine pure_ (i := 0) (N := some 92) (v := ?_) (a' := ?_) #[true, false, false, false, false, false, false, false, false, false, false, false, false, false, false, false, false, false, false, false, false, false, false, false] rfl rfl (any_of HT_.out (by kernel_rfl)) (fun _ _ _ h => h) (Or.inl ⟨by rfl, ?_⟩) ?_ ?_
          rotate_left
          · intro w'
            go_simp
            first | done | with_reducible rfl
          rotate_left
          · simp only [Act.put, List.setIfInBounds_toArray, List.set_cons_zero, List.set_cons_succ, i64_w, i32_w]
            rfl
          refine pure_ (i := 2) (N := some 94) (v := ?_) (a' := ?_) #[true, false, true, false, false, false, false, false, false, false, false, false, false, false, false, false, false, false, false, false, false, false, false, false] rfl rfl (any_of HT_.out (by kernel_rfl)) (fun _ _ _ h => h) (Or.inl ⟨by rfl, ?_⟩) ?_ ?_
          rotate_left
          · intro w'
            go_simp
            first | done | with_reducible rfl
          rotate_left
          · simp only [Act.put, List.setIfInBounds_toArray, List.set_cons_zero, List.set_cons_succ, i64_w, i32_w]
            rfl
          refine pure_ (i := 3) (N := some 95) (v := ?_) (a' := ?_) #[true, false, true, true, false, false, false, false, false, false, false, false, false, false, false, false, false, false, false, false, false, false, false, false] rfl rfl (any_of HT_.out (by kernel_rfl)) (fun _ _ _ h => h) (Or.inl ⟨by rfl, ?_⟩) ?_ ?_
          rotate_left
          · intro w'
            go_simp
            first | done | with_reducible rfl
          rotate_left
          · simp only [Act.put, List.setIfInBounds_toArray, List.set_cons_zero, List.set_cons_succ, i64_w, i32_w]
            rfl
          refine pure_ (i := 4) (N := some 96) (v := ?_) (a' := ?_) #[true, false, true, true, true, false, false, false, false, false, false, false, false, false, false, false, false, false, false, false, false, false, false, false] rfl rfl (any_of HT_.out (by kernel_rfl)) (fun _ _ _ h => h) (Or.inl ⟨by rfl, ?_⟩) ?_ ?_
          rotate_left
          · intro w'
            go_simp
            first | done | with_reducible rfl
          rotate_left
          · simp only [Act.put, List.setIfInBounds_toArray, List.set_cons_zero, List.set_cons_succ, i64_w, i32_w]
            rfl
          refine take_ (i := 5) (N := some 97) (v := ?_) (a' := ?_) #[true, false, true, true, true, true, false, false, false, false, false, false, false, false, false, false, false, false, false, false, false, false, false, false] rfl rfl (take_ofW HT_.out HW_.out (by kernel_rfl)) (fun _ _ _ h => h) (Or.inl ⟨by rfl, ?_⟩) hHeld ?_ ?_
          rotate_left
          · intro w' s0
            go_simp
            first | done | with_reducible rfl
          rotate_left
          · simp only [Act.put, List.setIfInBounds_toArray, List.set_cons_zero, List.set_cons_succ, i64_w, i32_w]
            rfl
          refine pure_ (i := 6) (N := some 98) (v := ?_) (a' := ?_) #[true, false, true, true, true, true, true, false, false, false, false, false, false, false, false, false, false, false, false, false, false, false, false, false] rfl rfl (any_of HT_.out (by kernel_rfl)) (fun _ _ _ h => h) (Or.inl ⟨by rfl, ?_⟩) ?_ ?_
          rotate_left
          · intro w'
            go_simp
            first | done | with_reducible rfl
          rotate_left
          · simp only [Act.put, List.setIfInBounds_toArray, List.set_cons_zero, List.set_cons_succ, i64_w, i32_w]
            rfl
          refine pure_ (i := 7) (N := some 99) (v := ?_) (a' := ?_) #[true, false, true, true, true, true, true, true, false, false, false, false, false, false, false, false, false, false, false, false, false, false, false, false] rfl rfl (any_of HT_.out (by kernel_rfl)) (fun _ _ _ h => h) (Or.inl ⟨by rfl, ?_⟩) ?_ ?_
          rotate_left
          · intro w'
            go_simp
            first | done | with_reducible rfl
          rotate_left
          · simp only [Act.put, List.setIfInBounds_toArray, List.set_cons_zero, List.set_cons_succ, i64_w, i32_w]
            rfl
          refine pure_ (i := 9) (N := some 101) (v := ?_) (a' := ?_) #[true, false, true, true, true, true, true, true, false, true, false, false, false, false, false, false, false, false, false, false, false, false, false, false] rfl rfl (any_of HT_.out (by kernel_rfl)) (fun _ _ _ h => h) (Or.inl ⟨by rfl, ?_⟩) ?_ ?_
          rotate_left
          · intro w'
            go_simp
            first | done | with_reducible rfl
          rotate_left
          · simp only [Act.put, List.setIfInBounds_toArray, List.set_cons_zero, List.set_cons_succ, i64_w, i32_w]
            rfl
          refine pure_ (i := 10) (N := some 102) (v := ?_) (a' := ?_) #[true, false, true, true, true, true, true, true, false, true, true, false, false, false, false, false, false, false, false, false, false, false, false, false] rfl rfl (any_of HT_.out (by kernel_rfl)) (fun _ _ _ h => h) (Or.inl ⟨by rfl, ?_⟩) ?_ ?_
          rotate_left
          · intro w'
            go_simp
            first | done | with_reducible rfl
          rotate_left
          · simp only [Act.put, List.setIfInBounds_toArray, List.set_cons_zero, List.set_cons_succ, i64_w, i32_w]
            rfl
          refine pure_ (i := 11) (N := some 103) (v := ?_) (a' := ?_) #[true, false, true, true, true, true, true, true, false, true, true, true, false, false, false, false, false, false, false, false, false, false, false, false] rfl rfl (any_of HT_.out (by kernel_rfl)) (fun _ _ _ h => h) (Or.inl ⟨by rfl, ?_⟩) ?_ ?_
          rotate_left
          · intro w'
            go_simp
            first | done | with_reducible rfl
          rotate_left
          · simp only [Act.put, List.setIfInBounds_toArray, List.set_cons_zero, List.set_cons_succ, i64_w, i32_w]
            rfl
          refine pure_ (i := 14) (N := some 106) (v := ?_) (a' := ?_) #[true, false, true, true, true, true, true, true, false, true, true, true, false, false, true, false, false, false, false, false, false, false, false, false] rfl rfl (any_of HT_.out (by kernel_rfl)) (fun _ _ _ h => h) (Or.inl ⟨by rfl, ?_⟩) ?_ ?_
          rotate_left
          · intro w'
            go_simp
            first | done | with_reducible rfl
          rotate_left
          · simp only [Act.put, List.setIfInBounds_toArray, List.set_cons_zero, List.set_cons_succ, i64_w, i32_w]
            rfl
          refine pure_ (i := 15) (N := some 107) (v := ?_) (a' := ?_) #[true, false, true, true, true, true, true, true, false, true, true, true, false, false, true, true, false, false, false, false, false, false, false, false] rfl rfl (any_of HT_.out (by kernel_rfl)) (fun _ _ _ h => h) (Or.inl ⟨by rfl, ?_⟩) ?_ ?_
          rotate_left
          · intro w'
            go_simp
            first | done | with_reducible rfl
          rotate_left
          · simp only [Act.put, List.setIfInBounds_toArray, List.set_cons_zero, List.set_cons_succ, i64_w, i32_w]
            rfl
          refine pure_ (i := 16) (N := some 108) (v := ?_) (a' := ?_) #[true, false, true, true, true, true, true, true, false, true, true, true, false, false, true, true, true, false, false, false, false, false, false, false] rfl rfl (any_of HT_.out (by kernel_rfl)) (fun _ _ _ h => h) (Or.inl ⟨by rfl, ?_⟩) ?_ ?_
          rotate_left
          · intro w'
            go_simp
            first | done | with_reducible rfl
          rotate_left
          · simp only [Act.put, List.setIfInBounds_toArray, List.set_cons_zero, List.set_cons_succ, i64_w, i32_w]
            rfl
          refine take_ (i := 17) (N := some 109) (v := ?_) (a' := ?_) #[true, false, true, true, true, true, true, true, false, true, true, true, false, false, true, true, true, true, false, false, false, false, false, false] rfl rfl (take_ofW HT_.out HW_.out (by kernel_rfl)) (fun _ _ _ h => h) (Or.inl ⟨by rfl, ?_⟩) hHeld ?_ ?_
          rotate_left
          · intro w' s0
            go_simp
            first | done | with_reducible rfl
          rotate_left
          · simp only [Act.put, List.setIfInBounds_toArray, List.set_cons_zero, List.set_cons_succ, i64_w, i32_w]
            rfl
          refine pure_ (i := 18) (N := some 110) (v := ?_) (a' := ?_) #[true, false, true, true, true, true, true, true, false, true, true, true, false, false, true, true, true, true, true, false, false, false, false, false] rfl rfl (any_of HT_.out (by kernel_rfl)) (fun _ _ _ h => h) (Or.inl ⟨by rfl, ?_⟩) ?_ ?_
          rotate_left
          · intro w'
            go_simp
            first | done | with_reducible rfl
          rotate_left
          · simp only [Act.put, List.setIfInBounds_toArray, List.set_cons_zero, List.set_cons_succ, i64_w, i32_w]
            rfl
          refine pure_ (i := 19) (N := some 111) (v := ?_) (a' := ?_) #[true, false, true, true, true, true, true, true, false, true, true, true, false, false, true, true, true, true, true, true, false, false, false, false] rfl rfl (any_of HT_.out (by kernel_rfl)) (fun _ _ _ h => h) (Or.inl ⟨by rfl, ?_⟩) ?_ ?_
          rotate_left
          · intro w'
            go_simp
            first | done | with_reducible rfl
          rotate_left
          · simp only [Act.put, List.setIfInBounds_toArray, List.set_cons_zero, List.set_cons_succ, i64_w, i32_w]
            rfl
          refine join_ (σ := Value × Value × Nat) 5 #[true, true, true, true, true, true, true, true, true, true, true, true, true, false, true, true, true, true, true, true, false, false, false, false] (fun s => [(93, s.1), (100, s.2.1), (104, .slice (some ⟨s.2.2, 0, none⟩) 1 1)]) (J12 wd key a ((M.take i).map ofT)) ?_ ?_
          rotate_left
          · intro hCont
            refine two_ (i := 1) (j := 12) (Ni := some 93) (Nj := some 104) #[true, true, true, true, true, true, true, true, false, true, true, true, false, false, true, true, true, true, true, true, false, false, false, false] #[true, false, true, true, true, true, true, true, false, true, true, true, true, false, true, true, true, true, true, true, false, false, false, false] rfl rfl rfl rfl (two_of HT_.out (by kernel_rfl)) (by decide) (by decide) (fun K hK => ?_) (fun K hK => ?_)
            · skip
              refine Kd.R_lit_step k38 wd.heap.size 38 ?hg (N := 93) ?hd (w0 := wd) (xs := ([] : List S38)) (inner := []) (ok := fun g => wd.heap.size ≤ g) (okp := fun _ => False) ?hr ?hp (fun _ hk => hk.elim) (Nat.le_refl _) (Below.refl _ _) (Nat.le_refl _) (by simp) ?_; (case hd => rfl); (case hg => rfl); (case hr => first | (go_simp; done) | (go_simp; rfl)); (case hp => exact Reps.none _ _)
              intro v93 wa ho_ hb_ hg_ hn_
              refine hK.out _ _ ((HDd.out.grow (hb_)).c1) (fun hHeld => ?_)
              clear hK K
              refine norm_ (a' := ?_) ?_ ?_
              rotate_left
              · show Act.put _ (some 93) _ = _
                simp only [Act.put, List.setIfInBounds_toArray, List.set_cons_zero, List.set_cons_succ, i64_w, i32_w]
                rfl
              refine two_ (i := 8) (j := 12) (Ni := some 100) (Nj := some 104) #[true, true, true, true, true, true, true, true, true, true, true, true, false, false, true, true, true, true, true, true, false, false, false, false] #[true, true, true, true, true, true, true, true, false, true, true, true, true, false, true, true, true, true, true, true, false, false, false, false] rfl rfl rfl rfl (two_of HT_.out (by kernel_rfl)) (by decide) (by decide) (fun K hK => ?_) (fun K hK => ?_)
              · skip
                refine Kd.R_append_rows_step k38 (Rr := k38.K wa) (w0 := wd) wd.heap.size ?hw (.tmp 93) (.tmp 99) 35 38 (.agg #[.string ⟨#[]⟩, .int .i64 0]) 24 rfl Try.underlying35 info38 rfl (by decide) (by omega) v93 [] ((M.take i).map ofT) A1 i _ (fun g => wd.heap.size ≤ g) (fun _ => False) rfl rfl ho_ ?aR (fun x cs h => by rw [k38_open h]; exact k38_mkM _ _ _ _) (fun _ hk => hk.elim) (fun g hg => Nat.le_trans hb_.size hg) hb_ hb_.size ?aL ?_; (case hw => rfl); (case aR => exact Kd.C_below HP.out.1 hb_); (case aL => have := HE.out.2; have := HN1.out; simp only [List.length_nil]; omega)
                intro v100 wb ho2_ hb2_ hg2_ hn2_
                rw [List.nil_append] at ho2_
                refine hK.out _ _ ((HDd.out.grow (hb2_)).c1) (fun hHeld => ?_)
                clear hK K
                refine norm_ (a' := ?_) ?_ ?_
                rotate_left
                · show Act.put _ (some 100) _ = _
                  simp only [Act.put, List.setIfInBounds_toArray, List.set_cons_zero, List.set_cons_succ, i64_w, i32_w]
                  rfl
                refine one_ (i := 12) (N := some 104) #[true, true, true, true, true, true, true, true, true, true, true, true, true, false, true, true, true, true, true, true, false, false, false, false] rfl rfl (one_of HT_.out (by kernel_rfl)) (by decide) (fun K hK => ?_)
                refine value_ (w1 := ?_) (v := ?_) (by rfl) rfl ?_ ?_
                rotate_left 2
                · go_simp
                  constructor
                  · rfl
                  · rfl
                refine hK.out _ _ ((HDd.out.grow (below_alloc hb2_ _)).c1) (fun hHeld => ?_)
                clear hK K
                refine norm_ (a' := ?_) ?_ ?_
                rotate_left
                · show Act.put _ (some 104) _ = _
                  simp only [Act.put, List.setIfInBounds_toArray, List.set_cons_zero, List.set_cons_succ, i64_w, i32_w]
                  rfl
                exact norm_ (by simp only [putAll, Act.put, List.setIfInBounds_toArray, List.set_cons_zero, List.set_cons_succ]) (hCont ⟨v93, v100, wb.heap.size⟩ _ ⟨Kd.R_below ho2_ (below_alloc (Below.refl _ _) _), below_alloc hb2_ _, elem_new wb key a⟩)
              · skip
                refine value_ (w1 := ?_) (v := ?_) (by rfl) rfl ?_ ?_
                rotate_left 2
                · go_simp
                  constructor
                  · rfl
                  · rfl
                refine hK.out _ _ ((HDd.out.grow (below_alloc hb_ _)).c1) (fun hHeld => ?_)
                clear hK K
                refine norm_ (a' := ?_) ?_ ?_
                rotate_left
                · show Act.put _ (some 104) _ = _
                  simp only [Act.put, List.setIfInBounds_toArray, List.set_cons_zero, List.set_cons_succ, i64_w, i32_w]
                  rfl
                refine one_ (i := 8) (N := some 100) #[true, true, true, true, true, true, true, true, true, true, true, true, true, false, true, true, true, true, true, true, false, false, false, false] rfl rfl (one_of HT_.out (by kernel_rfl)) (by decide) (fun K hK => ?_)
                have hb1_ := below_alloc hb_ (.cells #[.string key, .int .i64 a] 38)
                refine Kd.R_append_rows_step k38 (Rr := k38.K (wa.alloc (.cells #[.string key, .int .i64 a] 38))) (w0 := wd) wd.heap.size ?hw (.tmp 93) (.tmp 99) 35 38 (.agg #[.string ⟨#[]⟩, .int .i64 0]) 24 rfl Try.underlying35 info38 rfl (by decide) (by omega) v93 [] ((M.take i).map ofT) A1 i _ (fun g => wd.heap.size ≤ g) (fun _ => False) rfl rfl (Kd.R_below ho_ (below_alloc (Below.refl _ _) _)) ?aR (fun x cs h => by rw [k38_open h]; exact k38_mkM _ _ _ _) (fun _ hk => hk.elim) (fun g hg => Nat.le_trans hb1_.size hg) hb1_ hb1_.size ?aL ?_; (case hw => rfl); (case aR => exact Kd.C_below HP.out.1 hb1_); (case aL => have := HE.out.2; have := HN1.out; simp only [List.length_nil]; omega)
                intro v100 wb ho2_ hb2_ hg2_ hn2_
                rw [List.nil_append] at ho2_
                refine hK.out _ _ ((HDd.out.grow (hb2_)).c1) (fun hHeld => ?_)
                clear hK K
                refine norm_ (a' := ?_) ?_ ?_
                rotate_left
                · show Act.put _ (some 100) _ = _
                  simp only [Act.put, List.setIfInBounds_toArray, List.set_cons_zero, List.set_cons_succ, i64_w, i32_w]
                  rfl
                exact norm_ (by simp only [putAll, Act.put, List.setIfInBounds_toArray, List.set_cons_zero, List.set_cons_succ]) (hCont ⟨v93, v100, wa.heap.size⟩ _ ⟨ho2_, hb2_, C_elem (elem_new wa key a) hg2_ ho_⟩)
            · skip
              refine value_ (w1 := ?_) (v := ?_) (by rfl) rfl ?_ ?_
              rotate_left 2
              · go_simp
                constructor
                · rfl
                · rfl
              refine hK.out _ _ ((HDd.out.grow (below_alloc (Below.refl _ _) _)).c1) (fun hHeld => ?_)
              clear hK K
              refine norm_ (a' := ?_) ?_ ?_
              rotate_left
              · show Act.put _ (some 104) _ = _
                simp only [Act.put, List.setIfInBounds_toArray, List.set_cons_zero, List.set_cons_succ, i64_w, i32_w]
                rfl
              refine one_ (i := 1) (N := some 93) #[true, true, true, true, true, true, true, true, false, true, true, true, true, false, true, true, true, true, true, true, false, false, false, false] rfl rfl (one_of HT_.out (by kernel_rfl)) (by decide) (fun K hK => ?_)
              have hb1_ := below_alloc (Below.refl wd.heap.size wd) (.cells #[.string key, .int .i64 a] 38)
              refine Kd.R_lit_step k38 wd.heap.size 38 ?hg (N := 93) ?hd (w0 := wd) (xs := ([] : List S38)) (inner := []) (ok := fun g => wd.heap.size ≤ g) (okp := fun _ => False) ?hr ?hp (fun _ hk => hk.elim) hb1_.size hb1_ hb1_.size (by simp) ?_; (case hd => rfl); (case hg => rfl); (case hr => first | (go_simp; done) | (go_simp; rfl)); (case hp => exact Reps.none _ _)
              intro v93 wa ho_ hb_ hg_ hn_
              refine hK.out _ _ ((HDd.out.grow (hb_)).c1) (fun hHeld => ?_)
              clear hK K
              refine norm_ (a' := ?_) ?_ ?_
              rotate_left
              · show Act.put _ (some 93) _ = _
                simp only [Act.put, List.setIfInBounds_toArray, List.set_cons_zero, List.set_cons_succ, i64_w, i32_w]
                rfl
              refine one_ (i := 8) (N := some 100) #[true, true, true, true, true, true, true, true, true, true, true, true, true, false, true, true, true, true, true, true, false, false, false, false] rfl rfl (one_of HT_.out (by kernel_rfl)) (by decide) (fun K hK => ?_)
              refine Kd.R_append_rows_step k38 (Rr := k38.K wa) (w0 := wd) wd.heap.size ?hw (.tmp 93) (.tmp 99) 35 38 (.agg #[.string ⟨#[]⟩, .int .i64 0]) 24 rfl Try.underlying35 info38 rfl (by decide) (by omega) v93 [] ((M.take i).map ofT) A1 i _ (fun g => wd.heap.size ≤ g) (fun _ => False) rfl rfl ho_ ?aR (fun x cs h => by rw [k38_open h]; exact k38_mkM _ _ _ _) (fun _ hk => hk.elim) (fun g hg => Nat.le_trans hb_.size hg) hb_ hb_.size ?aL ?_; (case hw => rfl); (case aR => exact Kd.C_below HP.out.1 hb_); (case aL => have := HE.out.2; have := HN1.out; simp only [List.length_nil]; omega)
              intro v100 wb ho2_ hb2_ hg2_ hn2_
              rw [List.nil_append] at ho2_
              refine hK.out _ _ ((HDd.out.grow (hb2_)).c1) (fun hHeld => ?_)
              clear hK K
              refine norm_ (a' := ?_) ?_ ?_
              rotate_left
              · show Act.put _ (some 100) _ = _
                simp only [Act.put, List.setIfInBounds_toArray, List.set_cons_zero, List.set_cons_succ, i64_w, i32_w]
                rfl
              exact norm_ (by simp only [putAll, Act.put, List.setIfInBounds_toArray, List.set_cons_zero, List.set_cons_succ]) (hCont ⟨v93, v100, wd.heap.size⟩ _ ⟨ho2_, hb2_, C_elem2 (elem_new wd key a) hg_ hg2_ hn_⟩)
          rintro ⟨v93, v100, g0⟩ wa ⟨ho_, hb_, hc_⟩
          simp only [putAll, Act.put, List.setIfInBounds_toArray, List.set_cons_zero, List.set_cons_succ]
          refine one_ (i := 13) (N := some 105) #[true, true, true, true, true, true, true, true, true, true, true, true, true, true, true, true, true, true, true, true, false, false, false, false] rfl rfl (one_of HT_.out (by kernel_rfl)) (by decide) (fun K hK => ?_)
          refine Kd.R_append_rows_step k38 (Rr := k38.K wa) (w0 := wd) wd.heap.size ?hw (.tmp 100) (.tmp 104) 35 38 (.agg #[.string ⟨#[]⟩, .int .i64 0]) 24 rfl Try.underlying35 info38 rfl (by decide) (by omega) v100 ((M.take i).map ofT) [⟨key, a⟩] (some ⟨g0, 0, none⟩) 1 _ (fun g => wd.heap.size ≤ g) (fun _ => False) rfl rfl ho_ ?aR (fun x cs h => by rw [k38_open h]; exact k38_mkM _ _ _ _) (fun _ hk => hk.elim) (fun g hg => Nat.le_trans hb_.size hg) hb_ hb_.size ?aL ?_; (case hw => rfl); (case aR => exact hc_); (case aL => have := HLT.out; omega)
          intro v105 wb ho2_ hb2_ hg2_ hn2_
          refine hK.out _ _ ((HDd.out.grow (hb2_)).c1) (fun hHeld => ?_)
          clear hK K
          refine norm_ (a' := ?_) ?_ ?_
          rotate_left
          · show Act.put _ (some 105) _ = _
            simp only [Act.put, List.setIfInBounds_toArray, List.set_cons_zero, List.set_cons_succ, i64_w, i32_w]
            rfl
          refine one_ (i := 20) (N := some 112) #[true, true, true, true, true, true, true, true, true, true, true, true, true, true, true, true, true, true, true, true, true, false, false, false] rfl rfl (one_of HT_.out (by kernel_rfl)) (by decide) (fun K hK => ?_)
          refine Kd.R_append_rows_step k38 (Rr := k38.K wb) (w0 := wd) wd.heap.size ?hw (.tmp 105) (.tmp 111) 35 38 (.agg #[.string ⟨#[]⟩, .int .i64 0]) 24 rfl Try.underlying35 info38 rfl (by decide) (by omega) v105 (((M.take i).map ofT) ++ [⟨key, a⟩]) ((M.drop i).map ofT) Ad (n1 - i) _ (fun g => wd.heap.size ≤ g) (fun _ => False) rfl rfl ho2_ ?aR (fun x cs h => by rw [k38_open h]; exact k38_mkM _ _ _ _) (fun _ hk => hk.elim) (fun g hg => Nat.le_trans hb2_.size hg) hb2_ hb2_.size ?aL ?_; (case hw => rfl); (case aR => exact Kd.C_below HP.out.2 hb2_); (case aL => have := HLT.out; have := HN1.out; rw [List.length_append, List.length_singleton]; omega)
          intro v112 wc ho3_ hb3_ hg3_ hn3_
          refine hK.out _ _ ((HDd.out.grow (hb3_)).c1) (fun hHeld => ?_)
          clear hK K
          refine norm_ (a' := ?_) ?_ ?_
          rotate_left
          · show Act.put _ (some 112) _ = _
            simp only [Act.put, List.setIfInBounds_toArray, List.set_cons_zero, List.set_cons_succ, i64_w, i32_w]
            rfl
          have hins : ((M.take i).map ofT) ++ [⟨key, a⟩] ++ (M.drop i).map ofT = (insL L key a).map ofT := by
            unfold insL
            rw [← HM.out.1, ← HE.out.1, List.map_append, List.map_cons, List.append_assoc]
            rfl
          rw [hins] at ho3_
          obtain ⟨A9, c9, e9⟩ := Kd.R_slice ho3_
          subst e9
          have HTN := Aside0.mk (HDd.out.turn hb3_ ho3_)
          generalize ((insL L key a).map ofT).length = n9 at HTN ho3_ ⊢
          have cE := (HDd.out.grow hb3_).c1
          have fE : wc.frozen? ⟨r, 1, none⟩ = false := blk_frozen (HDd.out.grow hb3_).hb 1
          refine pure_ (i := 21) (N := some 113) (v := ?_) (a' := ?_) #[true, true, true, true, true, true, true, true, true, true, true, true, true, true, true, true, true, true, true, true, true, true, false, false] rfl rfl (any_of HT_.out (by kernel_rfl)) (fun _ _ _ h => h) (Or.inl ⟨by rfl, ?_⟩) ?_ ?_
          rotate_left
          · intro w'
            go_simp
            first | done | with_reducible rfl
          rotate_left
          · simp only [Act.put, List.setIfInBounds_toArray, List.set_cons_zero, List.set_cons_succ, i64_w, i32_w]
            rfl
          refine pure_ (i := 22) (N := some 114) (v := ?_) (a' := ?_) #[true, true, true, true, true, true, true, true, true, true, true, true, true, true, true, true, true, true, true, true, true, true, true, false] rfl rfl (any_of HT_.out (by kernel_rfl)) (fun _ _ _ h => h) (Or.inl ⟨by rfl, ?_⟩) ?_ ?_
          rotate_left
          · intro w'
            go_simp
            first | done | with_reducible rfl
          rotate_left
          · simp only [Act.put, List.setIfInBounds_toArray, List.set_cons_zero, List.set_cons_succ, i64_w, i32_w]
            rfl
          refine last_ (i := 23) (N := none) #[true, true, true, true, true, true, true, true, true, true, true, true, true, true, true, true, true, true, true, true, true, true, true, true] rfl rfl (one_of HT_.out (by kernel_rfl)) (by decide) (fun K hK => ?_)
          refine skip_ (w1 := ?_) (by rfl) rfl ?_ ?_
          rotate_left
          · go_simp
            rfl
          refine hK.out _ _ ?_
          clear hK K
          refine done_ (done_of HT_.out (by kernel_rfl)) ?_
          clear ho_ hb_ hc_ ho2_ hb2_ hg2_ hn2_ ho3_ hb3_ hg3_ hn3_ hins
          go_wp2
          go_ret
          obtain ⟨q1, q2, q3⟩ := HTN.out
          exact ⟨rfl, A9, n9, c9, q1, grown_trans HGd.out.1 q2, Src.trans HGd.out.2 HGd.out.1.size q3⟩
end Go.Proofs.Ytcknocglaimcpaa.WA

/- clear on a row of timers; what slices.DeleteFunc keeps. -/
import Derived.Test.YtcknocglaimcpaaWhA
import Derived.Maps.OwnSet
namespace Go.Proofs.Ytcknocglaimcpaa.WA
open Go.RowKit Go.Proofs.YtcknocglaimcpaaW.PrintWords Go.Proofs.YtcknocglaimcpaaW.PrintLast Go.Proofs.YtcknocglaimcpaaW.PrintMore
open Go.Proofs.Ytcknocglaimcpaa.PW Go.Proofs.Ytcknocglaimcpaa.Wh
set_option linter.unusedVariables false
set_option linter.unusedSimpArgs false
set_option maxHeartbeats 8000000
set_option maxRecDepth 100000
theorem at_none (w : World) (p : Value) (h : Calls Try.prog 26 #[p] w fun e w' => e = .returned (.bool true) ∧ w' = w) (key : ByteArray) : Calls Try.prog 24 #[p, .string key] w fun e w' => e = .returned (.tuple #[.int .i64 0, .bool false]) ∧ w' = w := by
  go_enter Try.func24, Try.ntmps24
  go_wp2_with (go_at_call 26; refine h.mono ?_; rintro e w' ⟨rfl, rfl⟩)
  go_ret2
  exact ⟨rfl, rfl⟩
theorem drop_none (w : World) (p : Value) (h : Calls Try.prog 26 #[p] w fun e w' => e = .returned (.bool true) ∧ w' = w) (key : ByteArray) : Calls Try.prog 20 #[p, .string key] w fun e w' => e = .returned (.bool false) ∧ w' = w := by
  go_enter Try.func20, Try.ntmps20
  go_wp2_with (go_at_call 26; refine h.mono ?_; rintro e w' ⟨rfl, rfl⟩)
  go_ret
  exact ⟨rfl, rfl⟩
theorem set_none (w : World) (p : Value) (h : Calls Try.prog 26 #[p] w fun e w' => e = .returned (.bool true) ∧ w' = w) (key : ByteArray) (a : Int) : Calls Try.prog 10 #[p, .string key, .int .i64 a] w fun e w' => e = .returned (.int .i64 1) ∧ w' = w := by
  go_enter Try.func10, Try.ntmps10
  go_wp2_with (go_at_call 26; refine h.mono ?_; rintro e w' ⟨rfl, rfl⟩)
  go_ret
  exact ⟨rfl, rfl⟩
theorem all_none (w : World) (p : Value) (h : Calls Try.prog 26 #[p] w fun e w' => e = .returned (.bool true) ∧ w' = w) : Calls Try.prog 13 #[p] w fun e w' => e = .returned (.slice none 0 0) ∧ w' = w := by
  go_enter Try.func13, Try.ntmps13
  go_wp2_with (go_at_call 26; refine h.mono ?_; rintro e w' ⟨rfl, rfl⟩)
  go_ret
  exact ⟨rfl, rfl⟩
theorem tick_none (w : World) (p : Value) (h : Calls Try.prog 26 #[p] w fun e w' => e = .returned (.bool true) ∧ w' = w) : Calls Try.prog 12 #[p] w fun e w' => e = .returned (.slice none 0 0) ∧ w' = w := by
  go_enter Try.func12, Try.ntmps12
  go_wp2_with (go_at_call 26; refine h.mono ?_; rintro e w' ⟨rfl, rfl⟩)
  go_ret
  exact ⟨rfl, rfl⟩
theorem skip_none (w : World) (p : Value) (h : Calls Try.prog 26 #[p] w fun e w' => e = .returned (.bool true) ∧ w' = w) (n : Int) : Calls Try.prog 16 #[p, .int .i64 n] w fun e w' => e = .returned (.tuple #[.slice none 0 0, .int .i64 1]) ∧ w' = w := by
  go_enter Try.func16, Try.ntmps16
  go_wp2_with (go_at_call 26; refine h.mono ?_; rintro e w' ⟨rfl, rfl⟩)
  go_ret2
  exact ⟨rfl, rfl⟩
theorem new_no (w : World) (n : Int) (h : n < 0 ∨ n > 1000000000) : Calls Try.prog 8 #[.int .i64 n] w fun e w' => e = .returned (.tuple #[.pointer none, .int .i64 2]) ∧ w' = w := by
  by_cases h1 : n < 0
  · have h1b : decide (n < 0) = true := decide_eq_true h1
    go_enter Try.func8, Try.ntmps8
    go_wp2
    go_ret2
    exact ⟨rfl, rfl⟩
  · have h1b : decide (n < 0) = false := decide_eq_false h1
    have h2b : decide (1000000000 < n) = true := decide_eq_true (by omega)
    go_enter Try.func8, Try.ntmps8
    go_wp2
    go_ret2
    exact ⟨rfl, rfl⟩
/-- A wheel without timers, as its cells. -/
def cells0 : Array Value := #[.bool false, .int .i64 0, .map none] ++ Array.replicate 192 (.slice none 0 0)
theorem zero62 (w : World) : (zeroValue 62).run Try.prog w = .ok (.agg cells0) w := by kernel_rfl
def cellsN (n : Int) (bm : Nat) : Array Value := ((cells0.setIfInBounds 0 (.bool true)).setIfInBounds 1 (.int .i64 n)).setIfInBounds 2 (.map (some bm))
/-- New: one block for the map, one for the wheel. -/
theorem new_yes (w : World) (n : Int) (h0 : 0 ≤ n) (h1 : n ≤ 1000000000) : Calls Try.prog 8 #[.int .i64 n] w fun e w' => e = .returned (.tuple #[.pointer (some ⟨w.heap.size + 1, 0, none⟩), .int .i64 0]) ∧ w' = (w.alloc (.map #[] 0)).alloc (.cells (cellsN n w.heap.size) 62) := by
  have h1b : decide (n < 0) = false := decide_eq_false (by omega)
  have h2b : decide (1000000000 < n) = false := decide_eq_false (by omega)
  have hmm := @run_makeMap Try.prog
  have hu := Try.underlying62
  have hc : ∃ Z : Array Value, Aside0 (Z = cells0) ∧ (∀ w, (zeroValue 62).run Try.prog w = .ok (.agg Z) w) ∧ (Z = #[]) = False ∧ (Z.size < 2) = False ∧ (Z.size < 3) = False :=
    ⟨cells0, ⟨rfl⟩, zero62, eq_false (fun h => by have := congrArg Array.size h; simp [cells0] at this), eq_false (by simp [cells0]), eq_false (by simp [cells0])⟩
  obtain ⟨Z, HZ, hz, hz1, hz2, hz3⟩ := hc
  go_enter Try.func8, Try.ntmps8
  go_wp2
  go_ret2
  refine ⟨rfl, ?_⟩
  unfold cellsN
  rw [← HZ.out]
/-- The closure of Drop: is it this timer? -/
theorem same_calls (w : World) (x y : S38) (g : Nat) (h0 : w.cell? ⟨g, 0, none⟩ = some (.string y.f0)) (h1 : w.cell? ⟨g, 1, none⟩ = some (.int .i64 y.f1)) :
    Calls Try.prog 31 #[.agg #[.string x.f0, .int .i64 x.f1], .pointer (some ⟨g, 0, none⟩)] w fun e w' => e = .returned (.bool (decide (x.f0 = y.f0 ∧ x.f1 = y.f1))) ∧ w' = w.alloc (.cells #[.string x.f0, .int .i64 x.f1] 38) := by
  have hu38 := Try.underlying38
  have hl : g < w.heap.size := World.block_lt_of_cell? _ _ h0
  have hb : Below w.heap.size w (w.alloc (.cells #[.string x.f0, .int .i64 x.f1] 38)) := below_alloc (Below.refl _ _) _
  have h0' := (hb.cell (p := ⟨g, 0, none⟩) hl).trans h0
  have h1' := (hb.cell (p := ⟨g, 1, none⟩) hl).trans h1
  have HE : Aside0 (x.f0 = y.f0 ↔ x.f0.toList = y.f0.toList) := ⟨⟨fun h => by rw [h], fun h => by
    rw [ByteArray.toList_eq, ByteArray.toList_eq] at h
    exact ba_ext h⟩⟩
  clear hb h0 h1 hl
  by_cases hk : x.f0.toList = y.f0.toList
  · have hkb := eq_true hk
    by_cases ha : x.f1 = y.f1
    · have hab := eq_true ha
      have HD : Aside0 (decide (x.f0 = y.f0 ∧ x.f1 = y.f1) = true) := ⟨decide_eq_true ⟨HE.out.2 hk, ha⟩⟩
      clear hk ha
      go_enter Try.func31, Try.ntmps31
      go_wp2
      go_ret
      exact ⟨by rw [HD.out]; rfl, rfl⟩
    · have hab := eq_false ha
      have HD : Aside0 (decide (x.f0 = y.f0 ∧ x.f1 = y.f1) = false) := ⟨decide_eq_false (fun h => ha h.2)⟩
      clear hk ha
      go_enter Try.func31, Try.ntmps31
      go_wp2
      go_ret
      exact ⟨by rw [HD.out]; rfl, rfl⟩
  · have hkb := eq_false hk
    have HD : Aside0 (decide (x.f0 = y.f0 ∧ x.f1 = y.f1) = false) := ⟨decide_eq_false (fun h => hk (HE.out.1 h.1))⟩
    clear hk
    go_enter Try.func31, Try.ntmps31
    go_wp2
    go_ret
    exact ⟨by rw [HD.out]; rfl, rfl⟩
end Go.Proofs.Ytcknocglaimcpaa.WA
namespace Go.Proofs.Ytcknocglaimcpaa.WA
open Go.RowKit Go.Proofs.YtcknocglaimcpaaW.PrintWords Go.Proofs.YtcknocglaimcpaaW.PrintLast Go.Proofs.YtcknocglaimcpaaW.PrintMore
open Go.Proofs.Ytcknocglaimcpaa.PW Go.Proofs.Ytcknocglaimcpaa.Wh
set_option linter.unusedVariables false
set_option linter.unusedSimpArgs false
set_option maxHeartbeats 8000000
set_option maxRecDepth 100000
def isT (y x : S38) : Bool := decide (x.f0 = y.f0 ∧ x.f1 = y.f1)
/-- The first place of a timer, behind so many; -1: it is not there. -/
def ixT (y : S38) : List S38 → Nat → Int
  | [], _ => -1
  | x :: l, i => if isT y x = true then (i : Int) else ixT y l (i + 1)
theorem ixT_drop (y : S38) (xs : List S38) (i : Nat) (h : i < xs.length) : ixT y (xs.drop i) i = if isT y xs[i] = true then (i : Int) else ixT y (xs.drop (i + 1)) (i + 1) := by
  rw [List.drop_eq_getElem_cons h]; rfl
theorem index_calls (w : World) (A : Option Addr) (c : Nat) (xs : List S38) (y : S38) (g : Nat) (hC : Kd.C k38 w A xs.length xs) (hl : xs.length ≤ 1000000)
    (h0 : w.cell? ⟨g, 0, none⟩ = some (.string y.f0)) (h1 : w.cell? ⟨g, 1, none⟩ = some (.int .i64 y.f1)) :
    Calls Try.prog 37 #[.slice A xs.length c, .func (.func 31) #[] #[.pointer (some ⟨g, 0, none⟩)]] w fun e w' => e = .returned (.int .i64 (ixT y xs 0)) ∧ Below w.heap.size w w' := by
  have hu38 := Try.underlying38
  have hg : g < w.heap.size := World.block_lt_of_cell? _ _ h0
  have HC := Aside0.mk hC
  have HX := Aside0.mk hl
  have HG := Aside0.mk (And.intro hg (And.intro h0 h1))
  clear hC hl hg h0 h1
  go_enter Try.func37, Try.ntmps37
  go_wp2
  go_loopg [8] (xs.length + 1) (fun kq v8 w' => ∃ i : Nat, v8 = .int .i64 i ∧ Aside0 (i + kq = xs.length + 1 ∧ i ≤ xs.length ∧ ixT y xs 0 = ixT y (xs.drop i) i) ∧ Aside0 (Below w.heap.size w w'))
  case atStart => exact ⟨0, rfl, ⟨by omega, by omega, rfl⟩, ⟨Below.refl _ _⟩⟩
  case round =>
    obtain ⟨i, rfl, HI, HB⟩ := hrel
    by_cases hi : i < xs.length
    case neg =>
      have hib : decide (i < xs.length) = false := decide_eq_false hi
      have HR : Aside0 (ixT y xs 0 = -1) := ⟨by rw [HI.out.2.2, List.drop_of_length_le (by omega)]; rfl⟩
      clear hi
      go_wp2
      go_ret
      exact ⟨by rw [HR.out]; rfl, HB.out⟩
    have hib : decide (i < xs.length) = true := decide_eq_true hi
    obtain ⟨ad, hA, c0, c1⟩ := at_T38 (Kd.C_below HC.out HB.out) (i : Int) (by omega) (by omega)
    have hrd : Aside0 (rd_T38 xs (i : Int) = xs[i]) := ⟨by unfold rd_T38; simp [List.getD, hi]⟩
    rw [hrd.out, Int.toNat_natCast] at c0 c1
    generalize hx : xs[i] = x at c0 c1
    have HX2 := Aside0.mk hx
    have hgb := HB.out
    have hcall := same_calls wr x y g ((hgb.cell (p := ⟨g, 0, none⟩) HG.out.1).trans HG.out.2.1) ((hgb.cell (p := ⟨g, 1, none⟩) HG.out.1).trans HG.out.2.2)
    have hw1 : wrap64 ((i : Int) + 1) = ((i + 1 : Nat) : Int) := by rw [wrap64_is (by have := HX.out; omega) (by have := HX.out; omega)]; omega
    have HW1 := Aside0.mk hw1
    have hir : (0 : Int) ≤ (i : Int) := by omega
    have hil : (i : Int) < (xs.length : Int) := by omega
    clear hrd hgb hw1 hx
    subst hA
    have HIX : Aside0 (ixT y xs 0 = if isT y x = true then (i : Int) else ixT y (xs.drop (i + 1)) (i + 1)) := ⟨by
      rw [HI.out.2.2, ixT_drop y xs i (by omega), HX2.out]⟩
    change Calls Try.prog 31 _ wr (fun e w' => e = .returned (.bool (isT y x)) ∧ _) at hcall
    cases hb : isT y x with
    | true =>
      rw [hb] at hcall
      have HR : Aside0 (ixT y xs 0 = (i : Int)) := ⟨by rw [HIX.out, if_pos hb]⟩
      clear hb
      go_wp2_with (go_at_call 31; refine hcall.mono ?_; rintro e w' ⟨rfl, rfl⟩)
      go_ret
      exact ⟨by rw [HR.out]; rfl, below_alloc HB.out _⟩
    | false =>
      rw [hb] at hcall
      have HR : Aside0 (ixT y xs 0 = ixT y (xs.drop (i + 1)) (i + 1)) := ⟨by rw [HIX.out, hb]; rfl⟩
      clear hb
      go_wp2_with (go_at_call 31; refine hcall.mono ?_; rintro e w' ⟨rfl, rfl⟩)
      go_roundg (gk - 1)
      case measure => have := HI.out; omega
      case rel => exact ⟨i + 1, by first | rw [HW1.out] | rfl, ⟨by have := HI.out; omega, by omega, HR.out⟩, ⟨below_alloc HB.out _⟩⟩
end Go.Proofs.Ytcknocglaimcpaa.WA
namespace Go.Proofs.Ytcknocglaimcpaa.WA
open Go.RowKit Go.Proofs.YtcknocglaimcpaaW.PrintWords Go.Proofs.YtcknocglaimcpaaW.PrintLast Go.Proofs.YtcknocglaimcpaaW.PrintMore
open Go.Proofs.Ytcknocglaimcpaa.PW Go.Proofs.Ytcknocglaimcpaa.Wh
set_option linter.unusedVariables false
set_option linter.unusedSimpArgs false
set_option maxHeartbeats 8000000
set_option maxRecDepth 100000
theorem ixT_none (y : S38) : ∀ (xs : List S38) (i : Nat), ixT y xs i = -1 → ∀ x ∈ xs, isT y x = false
  | [], _, _, x, hx => absurd hx (by simp)
  | z :: xs, i, h, x, hx => by
    unfold ixT at h
    by_cases e : isT y z = true
    · rw [if_pos e] at h; omega
    · rw [if_neg e] at h
      rcases List.mem_cons.1 hx with rfl | hx
      · simpa using e
      · exact ixT_none y xs (i + 1) h x hx
theorem ixT_some (y : S38) : ∀ (xs : List S38) (i : Nat), ixT y xs i ≠ -1 → ∃ j, j < xs.length ∧ ixT y xs i = ((i + j : Nat) : Int) ∧ (∀ k, k < j → ∀ h : k < xs.length, isT y xs[k] = false) ∧ ∀ h : j < xs.length, isT y xs[j] = true
  | [], _, h => absurd rfl h
  | z :: xs, i, h => by
    unfold ixT at h ⊢
    by_cases e : isT y z = true
    · rw [if_pos e]
      exact ⟨0, by simp, by simp, fun k hk => absurd hk (by omega), fun _ => e⟩
    · rw [if_neg e] at h ⊢
      obtain ⟨j, h1, h2, h3, h4⟩ := ixT_some y xs (i + 1) h
      refine ⟨j + 1, by simpa using h1, by rw [h2]; congr 1; omega, ?_, fun hj => h4 (by simpa using hj)⟩
      intro k hk hh
      match k with
      | 0 => simpa using e
      | k + 1 => exact h3 k (by omega) (by simpa using hh)
/-- Nothing to take out: the slice comes back as it is. -/
theorem delete_none (w : World) (A : Option Addr) (c : Nat) (xs : List S38) (y : S38) (g : Nat) (hC : Kd.C k38 w A xs.length xs) (hl : xs.length ≤ 1000000)
    (h0 : w.cell? ⟨g, 0, none⟩ = some (.string y.f0)) (h1 : w.cell? ⟨g, 1, none⟩ = some (.int .i64 y.f1)) (hn : ∀ x ∈ xs, isT y x = false) :
    Calls Try.prog 30 #[.slice A xs.length c, .func (.func 31) #[] #[.pointer (some ⟨g, 0, none⟩)]] w fun e w' => e = .returned (.slice A xs.length c) ∧ Below w.heap.size w w' := by
  have hi : ixT y xs 0 = -1 := by
    by_cases h : ixT y xs 0 = -1
    · exact h
    · obtain ⟨j, h1, _, _, h4⟩ := ixT_some y xs 0 h
      have := hn xs[j] (List.getElem_mem _)
      rw [h4 h1] at this
      cases this
  have hcall := index_calls w A c xs y g hC hl h0 h1
  rw [hi] at hcall
  clear hi hn h0 h1 hC hl
  go_enter Try.func30, Try.ntmps30
  go_wp2_with (go_at_call 37; refine hcall.mono ?_; rintro e w' ⟨rfl, hb⟩; have HB := Aside0.mk hb; clear hb)
  go_ret
  exact ⟨rfl, HB.out⟩
end Go.Proofs.Ytcknocglaimcpaa.WA
namespace Go.Proofs.Ytcknocglaimcpaa.WA
open Go.RowKit Go.Proofs.YtcknocglaimcpaaW.PrintWords Go.Proofs.YtcknocglaimcpaaW.PrintLast Go.Proofs.YtcknocglaimcpaaW.PrintMore
open Go.Proofs.Ytcknocglaimcpaa.PW Go.Proofs.Ytcknocglaimcpaa.Wh
set_option linter.unusedVariables false
set_option linter.unusedSimpArgs false
set_option maxHeartbeats 8000000
set_option maxRecDepth 100000
/-- So many timers without content, as cells. -/
def zs : Nat → List Value
  | 0 => []
  | n + 1 => .string ⟨#[]⟩ :: .int .i64 0 :: zs n
theorem zs_length : ∀ n, (zs n).length = n * 2
  | 0 => rfl
  | n + 1 => by unfold zs; simp [zs_length n]; omega
theorem zs_get : ∀ (n i : Nat) (h : i < (zs n).length), (zs n)[i] = if i % 2 = 0 then .string ⟨#[]⟩ else .int .i64 0
  | 0, i, h => by simp [zs] at h
  | n + 1, 0, h => by simp [zs]
  | n + 1, 1, h => by simp [zs]
  | n + 1, i + 2, h => by
    have := zs_get n i (by simpa [zs] using h)
    simp only [zs, List.getElem_cons_succ]
    rw [this]
    have e : (i + 2) % 2 = i % 2 := by omega
    rw [e]
theorem zero_cells (n : Nat) : (Builtin.zeroCells #[.string ⟨#[]⟩, .int .i64 0] n).toList = zs n := by
  apply List.ext_getElem
  · simp [Builtin.zeroCells, zs_length]
  · intro i h1 h2
    rw [zs_get]
    simp [Builtin.zeroCells]
    rcases Nat.mod_two_eq_zero_or_one i with e | e <;> simp [e]
theorem zs_one : ∀ n, ∀ v ∈ zs n, v.oneCell' = true
  | 0, v, h => by simp [zs] at h
  | n + 1, v, h => by
    simp only [zs, List.mem_cons] at h
    rcases h with rfl | rfl | h
    · rfl
    · rfl
    · exact zs_one n v h
theorem run_clear_two (w : World) (ty : TypeId) (b o n c : Nat) (hn : 0 < n)
    (hc : ∀ j, j < n * 2 → (w.cell? ⟨b, o + j, none⟩).isSome = true) (hf : ∀ j, j < n * 2 → w.frozen? ⟨b, o + j, none⟩ = false) :
    (Builtin.clear_ #[35] ty #[.slice (some ⟨b, o, none⟩) n c]).run Try.prog w = .ok (.tuple #[]) (w.setCells b o (zs n)) := by
  have hst := run_storeCells_cells (P := Try.prog) b o (zs n) 0 w (by rw [zs_length]; simpa using hc) (by rw [zs_length]; simpa using hf) (fun v hv => zs_one n v hv)
  simp only [Nat.add_zero] at hst
  obtain ⟨m, rfl⟩ : ∃ m, n = m + 1 := ⟨n - 1, by omega⟩
  have hv : ∀ w, (zeroValue 38).run Try.prog w = .ok (.agg #[.string ⟨#[]⟩, .int .i64 0]) w := fun w => by kernel_rfl
  have hz := zero_cells (m + 1)
  simp [Builtin.clear_, run_underlying Try.underlying35, hv, Value.cells, hz, hst]
/-- A row whose elements from one on are cleared. -/
theorem R_zero {base g cap n : Nat} {ok : Nat → Prop} : ∀ (m i : Nat) (W : World) (xs : List S38), n - i = m → i ≤ n → k38.R 38 W base ok (.slice (some ⟨g, 0, none⟩) n cap) xs →
    (∀ j, j < n * 2 → ∃ u, W.cell? ⟨g, j, none⟩ = some u) →
    k38.R 38 (W.setCells g (i * 2) (zs m)) base ok (.slice (some ⟨g, 0, none⟩) n cap) (xs.take i ++ List.replicate m z38)
  | 0, i, W, xs, hm, hi, h, hc => by
    have hl : n = xs.length := (Kd.R_reads' h).1
    have e : i = xs.length := by omega
    simp only [zs, World.setCells, List.replicate_zero, List.append_nil]
    rw [e, List.take_length]
    exact h
  | m + 1, i, W, xs, hm, hi, h, hc => by
    have hl : n = xs.length := (Kd.R_reads' h).1
    obtain ⟨u0, hu0⟩ := hc (i * 2) (by omega)
    obtain ⟨u1, hu1⟩ := hc (i * 2 + 1) (by omega)
    have hcc : ∀ (j : Nat) (u : Value), [u0, u1][j]? = some u → W.cell? ⟨g, ((i : Nat) : Int).toNat * k38.sz + j, none⟩ = some u := by
      intro j u hj
      rw [Int.toNat_natCast]
      match j with
      | 0 => simp at hj; subst hj; exact hu0
      | 1 => simp at hj; subst hj; exact hu1
      | j + 2 => simp at hj
    obtain ⟨hR, _⟩ := Kd.R_seg h ((i : Nat) : Int) (by omega) (by omega) (c := [u0, u1]) (seg := [.string ⟨#[]⟩, .int .i64 0]) (j := 0) rfl hcc (by decide) (x' := z38) (okp := fun _ => False) (k38_mkM _ _ _ z38) (fun _ hk => hk.elim)
    rw [Int.toNat_natCast] at hR
    have hc' : ∀ j, j < n * 2 → ∃ u, (W.setCells g (i * 2 + 0) [.string ⟨#[]⟩, .int .i64 0]).cell? ⟨g, j, none⟩ = some u := by
      intro j hj
      by_cases e : j < i * 2 ∨ i * 2 + 2 ≤ j
      · obtain ⟨u, hu⟩ := hc j hj
        exact ⟨u, by rw [World.cell?_setCells_out _ _ _ _ _ (fun _ _ => by simpa using e)]; exact hu⟩
      · have hin := World.cell?_setCells_in g [.string ⟨#[]⟩, .int .i64 0] (i * 2) W (fun k hk => by
          match k, hk with
          | 0, _ => rw [Nat.add_zero, hu0]; rfl
          | 1, _ => rw [hu1]; rfl)
        have hj2 : j = i * 2 + 0 ∨ j = i * 2 + 1 := by omega
        rcases hj2 with rfl | rfl
        · exact ⟨_, hin 0 (by decide)⟩
        · exact ⟨_, hin 1 (by decide)⟩
    have ih := R_zero m (i + 1) _ (xs.set i z38) (by omega) (by omega) hR hc'
    have e1 : W.setCells g (i * 2) (zs (m + 1)) = (W.setCells g (i * 2 + 0) [.string ⟨#[]⟩, .int .i64 0]).setCells g ((i + 1) * 2) (zs m) := by
      rw [show (i + 1) * 2 = i * 2 + 1 + 1 by omega]; rfl
    have e2 : xs.take i ++ List.replicate (m + 1) z38 = (xs.set i z38).take (i + 1) ++ List.replicate m z38 := by
      rw [List.replicate_succ, List.take_succ_eq_append_getElem (by rw [List.length_set]; omega), List.getElem_set_self, List.append_assoc, List.take_set_of_le (Nat.le_refl i)]
      rfl
    rw [e1, e2]
    exact ih
end Go.Proofs.Ytcknocglaimcpaa.WA

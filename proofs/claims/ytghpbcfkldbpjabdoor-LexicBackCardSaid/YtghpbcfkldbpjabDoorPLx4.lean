/- The machine side of this seat's laws: plain functions, and proofs that the calls do what they say; written by a program of this session over the translation; no conditions beyond those typed. -/
import Derived.Test.YtghpbcfkldbpjabDoorPLx0
import Derived.Test.YtghpbcfkldbpjabDoorPLx3
namespace Go.Proofs.YtghpbcfkldbpjabDoor.PL
open Go.RowKit Go.Proofs.YtghpbcfkldbpjabDoorW.PrintWords Go.Proofs.YtghpbcfkldbpjabDoorW.PrintLast Go.Proofs.YtghpbcfkldbpjabDoorW.PrintMore
attribute [local go_sem] max2_int min2_int max_two min_two max_three min_three max_four min_four   -- for this text's walks alone
set_option linter.unusedVariables false
set_option linter.unusedSimpArgs false

/-! ### lexic_Scan: function 9 -/
def lexic_Scan.ovr (p : Int → Bool) (s : ByteArray) : Nat → Nat → Nat
  | 0, at_ => at_
  | k + 1, at_ => if at_ < s.size then (if p (bt s at_) then lexic_Scan.ovr p s k (at_ + 1) else at_) else at_
/-- Two worlds that are alike but for block B (and draws). -/
structure lexic_Scan.Off (B : Nat) (w w' : World) : Prop where
  os : w'.os = w.os
  tape : w'.tape = w.tape
  output : w'.output = w.output
  size : w'.heap.size = w.heap.size
  block : ∀ k, k ≠ B → w'.heap[k]? = w.heap[k]?
theorem lexic_Scan.Off.refl (B : Nat) (w : World) : lexic_Scan.Off B w w := ⟨rfl, rfl, rfl, rfl, fun _ _ => rfl⟩
theorem lexic_Scan.Off.trans {B : Nat} {a b c : World} (h : lexic_Scan.Off B a b) (k : lexic_Scan.Off B b c) : lexic_Scan.Off B a c := ⟨k.os.trans h.os, k.tape.trans h.tape, k.output.trans h.output, k.size.trans h.size, fun i hi => (k.block i hi).trans (h.block i hi)⟩
theorem lexic_Scan.Off.drewN {B : Nat} {a w : World} (h : lexic_Scan.Off B a w) (n : Nat) : lexic_Scan.Off B a (w.drewN n) := ⟨h.os, h.tape, h.output, h.size, h.block⟩
theorem lexic_Scan.Off.drew {B : Nat} {a w : World} (h : lexic_Scan.Off B a w) : lexic_Scan.Off B a w.drew := ⟨h.os, h.tape, h.output, h.size, h.block⟩
theorem lexic_Scan.Off.setCell {B : Nat} {a w : World} (h : lexic_Scan.Off B a w) (i : Nat) (u : Value) : lexic_Scan.Off B a (w.setCell ⟨B, i, none⟩ u) := h.trans ⟨rfl, rfl, rfl, by simp [World.setCell], fun k hk => Below.heap_setCell _ _ _ _ hk⟩
theorem lexic_Scan.Off.below {B b : Nat} {w w' : World} (h : lexic_Scan.Off B w w') (hb : b ≤ B) : Below b w w' := ⟨h.os, h.tape, h.output, Nat.le_of_eq h.size.symm, fun k hk => h.block k (by omega)⟩
def lexic_Scan.scB (s : ByteArray) (i : Int) (out : Value) : Obj := .cells #[.string s, .int .i64 i, out] 47 (0, 0)
theorem lexic_Scan.R_form {α : Type} {d : Kd α} {e base : Nat} {ok : Nat → Prop} {w : World} {v : Value} {xs : List α} (h : d.R e w base ok v xs) : ∃ (A : Option Addr) (n c : Nat), v = .slice A n c := by
  obtain ⟨inner, ho⟩ := Kd.R_own h
  rcases ho.2 with ⟨h1, _⟩ | ⟨g, cap, cur, h1, _⟩
  · exact ⟨_, _, _, h1⟩
  · exact ⟨_, _, _, h1⟩
theorem lexic_Scan.R_off {α : Type} {d : Kd α} {e base : Nat} {ok : Nat → Prop} {w w1 : World} {v : Value} {xs : List α} (h : d.R e w base ok v xs) {g t : Nat} {cells : Array Value} (hb : w.heap[g]? = some (.cells cells t (0, 0))) (ht : ∀ q, q ∈ e :: d.E → q ≠ t) (ho : lexic_Scan.Off g w w1) : d.R e w1 base ok v xs :=
  Kd.R_mono (Kd.R_step (Kd.R_types h hb ht) (fun k hk _ => ho.block k hk.2)) (fun _ hk => hk.1)
theorem lexic_Scan.Off.kept {B : Nat} {w w1 : World} (h : lexic_Scan.Off B w w1) {g t t' : Nat} {cs cs' : Array Value} (hB : w.heap[B]? = some (.cells cs' t' (0, 0))) (hg : w.heap[g]? = some (.cells cs t (0, 0))) (hne : t ≠ t') : w1.heap[g]? = some (.cells cs t (0, 0)) := (h.block g (fun e => blk_ne hg hB hne e)).trans hg
set_option maxHeartbeats 4000000 in
theorem lexic_Scan.over31_calls (p : Int → Bool) (hf : ∀ (c : Int) (W : World), Calls Tryd.prog 31 #[.int .u8 c] W fun e w' => e = .returned (.bool (p c)) ∧ Drawn0 W w') (B a0 : Nat) (s : ByteArray) (out : Value) (w : World) (hB : w.heap[B]? = some (lexic_Scan.scB s a0 out)) (hsz : s.size ≤ 2000) (hat : a0 ≤ s.size) :
    Calls Tryd.prog 30 #[.pointer (some ⟨B, 0, none⟩), .func (.func 31) #[] #[]] w fun e w' => e = .returned (.tuple #[]) ∧ lexic_Scan.Off B w w' ∧ w'.heap[B]? = some (lexic_Scan.scB s (lexic_Scan.ovr p s (s.size - a0) a0 : Nat) out) := by
  have HF := Aside0.mk hf
  have HB := Aside0.mk hB
  clear hf hB
  go_enter Tryd.func30, Tryd.ntmps30
  go_wp2
  obtain ⟨R, hR⟩ : ∃ R, lexic_Scan.ovr p s (s.size - a0) a0 = R := ⟨_, rfl⟩
  have HR := Aside0.mk hR
  go_loopg [] (s.size - a0) (fun kq w' => ∃ (i : Nat), Aside0 (lexic_Scan.Off B w w') ∧ Aside0 (w'.heap[B]? = some (lexic_Scan.scB s i out)) ∧ Aside0 (i ≤ s.size) ∧ Aside0 (kq = s.size - i) ∧ Aside0 (lexic_Scan.ovr p s (s.size - i) i = R))
  case atStart => exact ⟨a0, ⟨lexic_Scan.Off.refl _ _⟩, HB, ⟨hat⟩, ⟨rfl⟩, ⟨hR⟩⟩
  case round => 
    clear HB hR hat
    obtain ⟨i, HO, HB, HI, HK, HA⟩ := hrel
    have hx0 : wr.cell? ⟨B, 0, none⟩ = some (.string s) := blk_cell HB.out 0
    have hx1 : wr.cell? ⟨B, 1, none⟩ = some (.int .i64 i) := blk_cell HB.out 1
    have hf1 : wr.frozen? ⟨B, 1, none⟩ = false := blk_frozen HB.out 1
    by_cases hlt : i < s.size
    · have d1 : decide ((i : Int) < (s.size : Int)) = true := decide_eq_true (by omega)
      have d2 : ((i : Int) < (s.size : Int)) = True := eq_true (by omega)
      have d3 : (0 ≤ (i : Int)) = True := eq_true (by omega)
      have hb : ∀ h : i < s.size, ((s[i]'h).toNat : Int) = bt s i := bt_at s i
      have HFi := fun W => HF.out (bt s i) W
      have hA := HA.out
      obtain ⟨k, hk⟩ : ∃ k, s.size - i = k + 1 := ⟨s.size - i - 1, by omega⟩
      have hk2 := HK.out
      rw [hk] at hA hk2
      simp only [lexic_Scan.ovr, if_pos hlt] at hA
      clear HA
      by_cases hp : p (bt s i) = true
      · rw [if_pos hp] at hA
        rw [hp] at HFi
        have HFI := Aside0.mk HFi
        have HA := Aside0.mk hA
        have HKK := Aside0.mk hk2
        have Hk := Aside0.mk hk
        have hi1 : IntKind.i64.wrap ((i : Int) + 1) = ((i + 1 : Nat) : Int) := by rw [i64_w, IntWalk.wrap64_in _ (by omega)]; omega
        have hi2 : wrap64 ((i : Int) + 1) = ((i + 1 : Nat) : Int) := by rw [IntWalk.wrap64_in _ (by omega)]; omega
        clear HFi HF hA hp hk2 hk HI HK
        go_wp2
        go_quiet ((go_at_call 31; exact Calls.quiet_of ((HFI.out _).mono fun e w' h => ⟨h.1, h.2.out⟩)))
        go_wp2
        go_roundg k
        case measure => have := HKK.out; omega
        case rel => exact ⟨i + 1, ⟨(HO.out.drewN nq).setCell 1 _⟩, ⟨by rw [show ((i : Int) + 1) = ((i + 1 : Nat) : Int) by omega]; exact blk_put (cs := #[.string s, .int .i64 i, out]) (blk_drewN HB.out nq) 1 _ rfl⟩, ⟨by omega⟩, ⟨by have := Hk.out; omega⟩, ⟨by rw [show s.size - (i + 1) = k by have := Hk.out; omega]; exact HA.out⟩⟩
      · rw [if_neg hp] at hA
        rw [Bool.not_eq_true] at hp
        rw [hp] at HFi
        have HFI := Aside0.mk HFi
        have HA := Aside0.mk hA
        clear HFi HF hA hp hk2 hk HI HK
        go_wp2
        go_quiet ((go_at_call 31; exact Calls.quiet_of ((HFI.out _).mono fun e w' h => ⟨h.1, h.2.out⟩)))
        go_wp2
        refine bodyPost_end (results_none rfl _ _ _) rfl ?_
        exact ⟨rfl, HO.out.drewN nq, by rw [HR.out, ← HA.out]; exact blk_drewN HB.out nq⟩
    · obtain rfl : i = s.size := by have := HI.out; omega
      have hA := HA.out
      have d1 : decide ((s.size : Int) < (s.size : Int)) = false := decide_eq_false (by omega)
      rw [Nat.sub_self] at hA
      simp only [lexic_Scan.ovr] at hA
      have HA := Aside0.mk hA
      clear hA HF hlt
      go_wp2
      go_quiet (fail)
      go_wp2
      refine bodyPost_end (results_none rfl _ _ _) rfl ?_
      exact ⟨rfl, HO.out.drewN nq, by rw [HR.out, ← HA.out]; exact blk_drewN HB.out nq⟩
set_option maxHeartbeats 4000000 in
theorem lexic_Scan.over33_calls (p : Int → Bool) (hf : ∀ (c : Int) (W : World), Calls Tryd.prog 33 #[.int .u8 c] W fun e w' => e = .returned (.bool (p c)) ∧ Drawn0 W w') (B a0 : Nat) (s : ByteArray) (out : Value) (w : World) (hB : w.heap[B]? = some (lexic_Scan.scB s a0 out)) (hsz : s.size ≤ 2000) (hat : a0 ≤ s.size) :
    Calls Tryd.prog 30 #[.pointer (some ⟨B, 0, none⟩), .func (.func 33) #[] #[]] w fun e w' => e = .returned (.tuple #[]) ∧ lexic_Scan.Off B w w' ∧ w'.heap[B]? = some (lexic_Scan.scB s (lexic_Scan.ovr p s (s.size - a0) a0 : Nat) out) := by
  have HF := Aside0.mk hf
  have HB := Aside0.mk hB
  clear hf hB
  go_enter Tryd.func30, Tryd.ntmps30
  go_wp2
  obtain ⟨R, hR⟩ : ∃ R, lexic_Scan.ovr p s (s.size - a0) a0 = R := ⟨_, rfl⟩
  have HR := Aside0.mk hR
  go_loopg [] (s.size - a0) (fun kq w' => ∃ (i : Nat), Aside0 (lexic_Scan.Off B w w') ∧ Aside0 (w'.heap[B]? = some (lexic_Scan.scB s i out)) ∧ Aside0 (i ≤ s.size) ∧ Aside0 (kq = s.size - i) ∧ Aside0 (lexic_Scan.ovr p s (s.size - i) i = R))
  case atStart => exact ⟨a0, ⟨lexic_Scan.Off.refl _ _⟩, HB, ⟨hat⟩, ⟨rfl⟩, ⟨hR⟩⟩
  case round => 
    clear HB hR hat
    obtain ⟨i, HO, HB, HI, HK, HA⟩ := hrel
    have hx0 : wr.cell? ⟨B, 0, none⟩ = some (.string s) := blk_cell HB.out 0
    have hx1 : wr.cell? ⟨B, 1, none⟩ = some (.int .i64 i) := blk_cell HB.out 1
    have hf1 : wr.frozen? ⟨B, 1, none⟩ = false := blk_frozen HB.out 1
    by_cases hlt : i < s.size
    · have d1 : decide ((i : Int) < (s.size : Int)) = true := decide_eq_true (by omega)
      have d2 : ((i : Int) < (s.size : Int)) = True := eq_true (by omega)
      have d3 : (0 ≤ (i : Int)) = True := eq_true (by omega)
      have hb : ∀ h : i < s.size, ((s[i]'h).toNat : Int) = bt s i := bt_at s i
      have HFi := fun W => HF.out (bt s i) W
      have hA := HA.out
      obtain ⟨k, hk⟩ : ∃ k, s.size - i = k + 1 := ⟨s.size - i - 1, by omega⟩
      have hk2 := HK.out
      rw [hk] at hA hk2
      simp only [lexic_Scan.ovr, if_pos hlt] at hA
      clear HA
      by_cases hp : p (bt s i) = true
      · rw [if_pos hp] at hA
        rw [hp] at HFi
        have HFI := Aside0.mk HFi
        have HA := Aside0.mk hA
        have HKK := Aside0.mk hk2
        have Hk := Aside0.mk hk
        have hi1 : IntKind.i64.wrap ((i : Int) + 1) = ((i + 1 : Nat) : Int) := by rw [i64_w, IntWalk.wrap64_in _ (by omega)]; omega
        have hi2 : wrap64 ((i : Int) + 1) = ((i + 1 : Nat) : Int) := by rw [IntWalk.wrap64_in _ (by omega)]; omega
        clear HFi HF hA hp hk2 hk HI HK
        go_wp2
        go_quiet ((go_at_call 33; exact Calls.quiet_of ((HFI.out _).mono fun e w' h => ⟨h.1, h.2.out⟩)))
        go_wp2
        go_roundg k
        case measure => have := HKK.out; omega
        case rel => exact ⟨i + 1, ⟨(HO.out.drewN nq).setCell 1 _⟩, ⟨by rw [show ((i : Int) + 1) = ((i + 1 : Nat) : Int) by omega]; exact blk_put (cs := #[.string s, .int .i64 i, out]) (blk_drewN HB.out nq) 1 _ rfl⟩, ⟨by omega⟩, ⟨by have := Hk.out; omega⟩, ⟨by rw [show s.size - (i + 1) = k by have := Hk.out; omega]; exact HA.out⟩⟩
      · rw [if_neg hp] at hA
        rw [Bool.not_eq_true] at hp
        rw [hp] at HFi
        have HFI := Aside0.mk HFi
        have HA := Aside0.mk hA
        clear HFi HF hA hp hk2 hk HI HK
        go_wp2
        go_quiet ((go_at_call 33; exact Calls.quiet_of ((HFI.out _).mono fun e w' h => ⟨h.1, h.2.out⟩)))
        go_wp2
        refine bodyPost_end (results_none rfl _ _ _) rfl ?_
        exact ⟨rfl, HO.out.drewN nq, by rw [HR.out, ← HA.out]; exact blk_drewN HB.out nq⟩
    · obtain rfl : i = s.size := by have := HI.out; omega
      have hA := HA.out
      have d1 : decide ((s.size : Int) < (s.size : Int)) = false := decide_eq_false (by omega)
      rw [Nat.sub_self] at hA
      simp only [lexic_Scan.ovr] at hA
      have HA := Aside0.mk hA
      clear hA HF hlt
      go_wp2
      go_quiet (fail)
      go_wp2
      refine bodyPost_end (results_none rfl _ _ _) rfl ?_
      exact ⟨rfl, HO.out.drewN nq, by rw [HR.out, ← HA.out]; exact blk_drewN HB.out nq⟩
set_option maxHeartbeats 4000000 in
theorem lexic_Scan.over34_calls (p : Int → Bool) (hf : ∀ (c : Int) (W : World), Calls Tryd.prog 34 #[.int .u8 c] W fun e w' => e = .returned (.bool (p c)) ∧ Drawn0 W w') (B a0 : Nat) (s : ByteArray) (out : Value) (w : World) (hB : w.heap[B]? = some (lexic_Scan.scB s a0 out)) (hsz : s.size ≤ 2000) (hat : a0 ≤ s.size) :
    Calls Tryd.prog 30 #[.pointer (some ⟨B, 0, none⟩), .func (.func 34) #[] #[]] w fun e w' => e = .returned (.tuple #[]) ∧ lexic_Scan.Off B w w' ∧ w'.heap[B]? = some (lexic_Scan.scB s (lexic_Scan.ovr p s (s.size - a0) a0 : Nat) out) := by
  have HF := Aside0.mk hf
  have HB := Aside0.mk hB
  clear hf hB
  go_enter Tryd.func30, Tryd.ntmps30
  go_wp2
  obtain ⟨R, hR⟩ : ∃ R, lexic_Scan.ovr p s (s.size - a0) a0 = R := ⟨_, rfl⟩
  have HR := Aside0.mk hR
  go_loopg [] (s.size - a0) (fun kq w' => ∃ (i : Nat), Aside0 (lexic_Scan.Off B w w') ∧ Aside0 (w'.heap[B]? = some (lexic_Scan.scB s i out)) ∧ Aside0 (i ≤ s.size) ∧ Aside0 (kq = s.size - i) ∧ Aside0 (lexic_Scan.ovr p s (s.size - i) i = R))
  case atStart => exact ⟨a0, ⟨lexic_Scan.Off.refl _ _⟩, HB, ⟨hat⟩, ⟨rfl⟩, ⟨hR⟩⟩
  case round => 
    clear HB hR hat
    obtain ⟨i, HO, HB, HI, HK, HA⟩ := hrel
    have hx0 : wr.cell? ⟨B, 0, none⟩ = some (.string s) := blk_cell HB.out 0
    have hx1 : wr.cell? ⟨B, 1, none⟩ = some (.int .i64 i) := blk_cell HB.out 1
    have hf1 : wr.frozen? ⟨B, 1, none⟩ = false := blk_frozen HB.out 1
    by_cases hlt : i < s.size
    · have d1 : decide ((i : Int) < (s.size : Int)) = true := decide_eq_true (by omega)
      have d2 : ((i : Int) < (s.size : Int)) = True := eq_true (by omega)
      have d3 : (0 ≤ (i : Int)) = True := eq_true (by omega)
      have hb : ∀ h : i < s.size, ((s[i]'h).toNat : Int) = bt s i := bt_at s i
      have HFi := fun W => HF.out (bt s i) W
      have hA := HA.out
      obtain ⟨k, hk⟩ : ∃ k, s.size - i = k + 1 := ⟨s.size - i - 1, by omega⟩
      have hk2 := HK.out
      rw [hk] at hA hk2
      simp only [lexic_Scan.ovr, if_pos hlt] at hA
      clear HA
      by_cases hp : p (bt s i) = true
      · rw [if_pos hp] at hA
        rw [hp] at HFi
        have HFI := Aside0.mk HFi
        have HA := Aside0.mk hA
        have HKK := Aside0.mk hk2
        have Hk := Aside0.mk hk
        have hi1 : IntKind.i64.wrap ((i : Int) + 1) = ((i + 1 : Nat) : Int) := by rw [i64_w, IntWalk.wrap64_in _ (by omega)]; omega
        have hi2 : wrap64 ((i : Int) + 1) = ((i + 1 : Nat) : Int) := by rw [IntWalk.wrap64_in _ (by omega)]; omega
        clear HFi HF hA hp hk2 hk HI HK
        go_wp2
        go_quiet ((go_at_call 34; exact Calls.quiet_of ((HFI.out _).mono fun e w' h => ⟨h.1, h.2.out⟩)))
        go_wp2
        go_roundg k
        case measure => have := HKK.out; omega
        case rel => exact ⟨i + 1, ⟨(HO.out.drewN nq).setCell 1 _⟩, ⟨by rw [show ((i : Int) + 1) = ((i + 1 : Nat) : Int) by omega]; exact blk_put (cs := #[.string s, .int .i64 i, out]) (blk_drewN HB.out nq) 1 _ rfl⟩, ⟨by omega⟩, ⟨by have := Hk.out; omega⟩, ⟨by rw [show s.size - (i + 1) = k by have := Hk.out; omega]; exact HA.out⟩⟩
      · rw [if_neg hp] at hA
        rw [Bool.not_eq_true] at hp
        rw [hp] at HFi
        have HFI := Aside0.mk HFi
        have HA := Aside0.mk hA
        clear HFi HF hA hp hk2 hk HI HK
        go_wp2
        go_quiet ((go_at_call 34; exact Calls.quiet_of ((HFI.out _).mono fun e w' h => ⟨h.1, h.2.out⟩)))
        go_wp2
        refine bodyPost_end (results_none rfl _ _ _) rfl ?_
        exact ⟨rfl, HO.out.drewN nq, by rw [HR.out, ← HA.out]; exact blk_drewN HB.out nq⟩
    · obtain rfl : i = s.size := by have := HI.out; omega
      have hA := HA.out
      have d1 : decide ((s.size : Int) < (s.size : Int)) = false := decide_eq_false (by omega)
      rw [Nat.sub_self] at hA
      simp only [lexic_Scan.ovr] at hA
      have HA := Aside0.mk hA
      clear hA HF hlt
      go_wp2
      go_quiet (fail)
      go_wp2
      refine bodyPost_end (results_none rfl _ _ _) rfl ?_
      exact ⟨rfl, HO.out.drewN nq, by rw [HR.out, ← HA.out]; exact blk_drewN HB.out nq⟩
theorem lexic_Scan.tells31 (c : Int) (w : World) : Calls Tryd.prog 31 #[.int .u8 c] w fun e w' => e = .returned (.bool (decide (c ≠ 10))) ∧ Drawn0 w w' := by
  by_cases h : c = 10
  · have d1 : (c != 10) = false := by rw [bne_eq_false_iff_eq]; exact h
    have d2 : decide (c ≠ 10) = false := decide_eq_false (fun h' => h' h)
    rw [d2]; clear d2
    clear h
    go_enter Tryd.func31, Tryd.ntmps31
    go_wp2
    go_ret
    exact ⟨rfl, 0, rfl⟩
  · have d1 : (c != 10) = true := by rw [bne_iff_ne]; exact h
    have d2 : decide (c ≠ 10) = true := decide_eq_true h
    rw [d2]; clear d2
    clear h
    go_enter Tryd.func31, Tryd.ntmps31
    go_wp2
    go_ret
    exact ⟨rfl, 0, rfl⟩
theorem lexic_Scan.tells33 (c : Int) (w : World) : Calls Tryd.prog 33 #[.int .u8 c] w fun e w' => e = .returned (.bool (lexic_word.isSmall c || lexic_word.isDigit c)) ∧ Drawn0 w w' := by
  have hS1 := fun W => lexic_word.small c W
  have HD := Aside0.mk (fun W => lexic_word.digit c W)
  cases g1 : lexic_word.isSmall c with
  | true =>
    rw [g1] at hS1
    have HS := Aside0.mk hS1
    clear hS1 HD g1
    rw [Bool.true_or]
    go_enter Tryd.func33, Tryd.ntmps33
    go_wp2_with (go_at_call 32; (with_reducible refine (HS.out _).mono ?_); rintro e w1 ⟨rfl, ⟨n1, rfl⟩⟩)
    go_ret
    exact ⟨rfl, _, rfl⟩
  | false =>
    rw [g1] at hS1
    have HS := Aside0.mk hS1
    clear hS1 g1
    rw [Bool.false_or]
    generalize lexic_word.isDigit c = b at HD ⊢
    go_enter Tryd.func33, Tryd.ntmps33
    go_wp2_with (first | (go_at_call 32; (with_reducible refine (HS.out _).mono ?_); rintro e w1 ⟨rfl, ⟨n1, rfl⟩⟩) | (go_at_call 34; (with_reducible refine (HD.out _).mono ?_); rintro e w1 ⟨rfl, ⟨n2, rfl⟩⟩))
    go_ret
    exact ⟨by simp, _, rfl⟩
set_option maxHeartbeats 4000000 in
set_option maxRecDepth 100000 in
theorem lexic_Scan.put_calls (kind : Int) (B gb from_ at_ base : Nat) (s : ByteArray) (v : Value) (xs : List S32) (w0 w : World) (hB : w.heap[B]? = some (lexic_Scan.scB s at_ v)) (hG : w.heap[gb]? = some (.cells #[.int .i64 0, .int .i64 0] 25 (0, 0))) (hR : Kd.R k32 32 w base (fun _ => True) v xs) (hb : Below base w0 w) (hbase : base ≤ B) (hsz : s.size ≤ 2000) (hat : at_ ≤ s.size) (hfr : from_ ≤ at_) (hxs : xs.length ≤ 5000) :
    Calls Tryd.prog 36 #[.pointer (some ⟨B, 0, none⟩), .int .i64 kind, .int .i64 (from_ : Int)] w fun e w' => e = .returned (.tuple #[]) ∧ ∃ v', w'.heap[B]? = some (lexic_Scan.scB s at_ v') ∧ w'.heap[gb]? = some (.cells #[.int .i64 0, .int .i64 0] 25 (0, 0)) ∧ Kd.R k32 32 w' base (fun _ => True) v' (xs ++ [⟨kind, s.extract from_ at_, from_⟩]) ∧ Below base w0 w' := by
  have HB := Aside0.mk hB
  have HG := Aside0.mk hG
  have HR := Aside0.mk hR
  have Hb := Aside0.mk hb
  have hx0 : w.cell? ⟨B, 0, none⟩ = some (.string s) := blk_cell hB 0
  have hx1 : w.cell? ⟨B, 1, none⟩ = some (.int .i64 at_) := blk_cell hB 1
  have hx2 : w.cell? ⟨B, 2, none⟩ = some v := blk_cell hB 2
  have hf2 : w.frozen? ⟨B, 2, none⟩ = false := blk_frozen hB 2
  have hbH : B < w.heap.size := blk_lt hB
  have q1 : (0 ≤ (from_ : Int)) = True := eq_true (by omega)
  have q2 : ((from_ : Int) ≤ (at_ : Int)) = True := eq_true (by omega)
  have q3 : ((at_ : Int) ≤ (s.size : Int)) = True := eq_true (by omega)
  have q4 : (0 ≤ (at_ : Int)) = True := eq_true (by omega)
  have Hbase := Aside0.mk hbase
  have Hxs := Aside0.mk hxs
  clear hB hG hR hb hbase hxs
  go_enter Tryd.func36, Tryd.ntmps36
  go_wp2
  go_region_law ((refine Kd.R_append_step k32 (w0 := w0) (W := w.drew) base (by rfl) (.tmp 10) (.tmp 26) 22 32 (.agg #[(.int .i64 0), (.string ⟨#[]⟩), (.int .i64 0)]) 32 (by rfl) Tryd.underlying22 info32 rfl (by decide) (by omega) v xs (⟨kind, s.extract from_ at_, (from_ : Int)⟩ : S32) [.int .i64 kind, .string (s.extract from_ at_), .int .i64 (from_ : Int)] (fun _ => True) (fun _ => False) (by rfl) (by rfl) (k32_mkM _ _ _ (⟨kind, s.extract from_ at_, (from_ : Int)⟩ : S32)) (fun _ hk => hk.elim) (fun _ _ => trivial) (Kd.R_drew HR.out) (below_drew1 Hb.out) (by have := Hbase.out; have := hbH; show base ≤ w.heap.size; omega) (by have := Hxs.out; omega) ?_; intro v1 w1 ho hb1 hg1 hat1; obtain ⟨A1, n1, c1, rfl⟩ := lexic_Scan.R_form ho; have hB1 := Aside0.mk (blk_grown (blk_drew HB.out) hg1 (Kd.R_ne (Kd.R_drew HR.out) (blk_drew HB.out) (by decide))); have hG1 := Aside0.mk (blk_grown (blk_drew HG.out) hg1 (Kd.R_ne (Kd.R_drew HR.out) (blk_drew HG.out) (by decide))); have hc1 : w1.cell? ⟨B, 2, none⟩ = some v := blk_cell hB1.out 2; have hc2 : w1.frozen? ⟨B, 2, none⟩ = false := blk_frozen hB1.out 2; have HO1 := Aside0.mk ho; have Hb1 := Aside0.mk hb1; clear ho hb1 hg1 hat1))
  all_goals refine bodyPost_end (results_none rfl _ _ _) rfl ?_
  all_goals exact ⟨rfl, _, blk_put hB1.out 2 _ rfl, blk_far hG1.out (fun e => blk_ne hG1.out hB1.out (by decide) e) _, Kd.R_set HO1.out hB1.out (by decide) 2 _, Hb1.out.setCell Hbase.out _⟩
abbrev lexic_Scan.notNl (c : Int) : Bool := decide (c ≠ 10)
abbrev lexic_Scan.smDg (c : Int) : Bool := lexic_word.isSmall c || lexic_word.isDigit c
/-- What the scanner does from a place on: where it stops (-1: at the end), and the tokens. -/
def lexic_Scan.scn (s : ByteArray) : Nat → Nat → List S32 → Int × List S32
  | 0, at_, out => (at_, out)
  | k + 1, at_, out =>
    if at_ < s.size then
      (if bt s at_ = 32 then lexic_Scan.scn s k (at_ + 1) out else if bt s at_ = 9 then lexic_Scan.scn s k (at_ + 1) out else if bt s at_ = 10 then lexic_Scan.scn s k (at_ + 1) out
      else if bt s at_ = 35 then lexic_Scan.scn s k (lexic_Scan.ovr lexic_Scan.notNl s (s.size - at_) at_) out
      else if lexic_word.isSmall (bt s at_) = true then
        (if lexic_word.f (s.extract at_ (lexic_Scan.ovr lexic_Scan.smDg s (s.size - at_) at_)) = some true then lexic_Scan.scn s k (lexic_Scan.ovr lexic_Scan.smDg s (s.size - at_) at_) (out ++ [⟨1, s.extract at_ (lexic_Scan.ovr lexic_Scan.smDg s (s.size - at_) at_), at_⟩]) else (at_, out))
      else if lexic_word.isDigit (bt s at_) = true then
        (if lexic_number.f (s.extract at_ (lexic_Scan.ovr lexic_word.isDigit s (s.size - at_) at_)) = some true then lexic_Scan.scn s k (lexic_Scan.ovr lexic_word.isDigit s (s.size - at_) at_) (out ++ [⟨2, s.extract at_ (lexic_Scan.ovr lexic_word.isDigit s (s.size - at_) at_), at_⟩]) else (at_, out))
      else if bt s at_ = 123 then lexic_Scan.scn s k (at_ + 1) (out ++ [⟨3, s.extract at_ (at_ + 1), at_⟩])
      else if bt s at_ = 125 then lexic_Scan.scn s k (at_ + 1) (out ++ [⟨3, s.extract at_ (at_ + 1), at_⟩])
      else if bt s at_ = 59 then lexic_Scan.scn s k (at_ + 1) (out ++ [⟨3, s.extract at_ (at_ + 1), at_⟩])
      else (at_, out))
    else (-1, out ++ [⟨0, s.extract at_ at_, at_⟩])
theorem lexic_Scan.ovr_le (p : Int → Bool) (s : ByteArray) : ∀ k at_, at_ ≤ lexic_Scan.ovr p s k at_
  | 0, at_ => Nat.le_refl _
  | k + 1, at_ => by
    unfold lexic_Scan.ovr
    split
    · split
      · exact Nat.le_trans (Nat.le_succ _) (lexic_Scan.ovr_le p s k (at_ + 1))
      · exact Nat.le_refl _
    · exact Nat.le_refl _
theorem lexic_Scan.ovr_end (p : Int → Bool) (s : ByteArray) : ∀ k at_, at_ ≤ s.size → lexic_Scan.ovr p s k at_ ≤ s.size
  | 0, at_, h => h
  | k + 1, at_, h => by
    unfold lexic_Scan.ovr
    split
    · split
      · exact lexic_Scan.ovr_end p s k (at_ + 1) (by omega)
      · exact h
    · exact h
theorem lexic_Scan.ovr_lt (p : Int → Bool) (s : ByteArray) (at_ : Nat) (h : at_ < s.size) (hp : p (bt s at_) = true) : at_ < lexic_Scan.ovr p s (s.size - at_) at_ := by
  obtain ⟨k, hk⟩ : ∃ k, s.size - at_ = k + 1 := ⟨s.size - at_ - 1, by omega⟩
  rw [hk]
  unfold lexic_Scan.ovr
  rw [if_pos h, if_pos hp]
  exact lexic_Scan.ovr_le p s k (at_ + 1)
theorem lexic_Scan.word_some (s : ByteArray) : ∃ b, lexic_word.f s = some b := by
  unfold lexic_word.f
  split
  · exact ⟨_, rfl⟩
  split
  · exact ⟨_, rfl⟩
  split
  · exact ⟨_, rfl⟩
  · exact ⟨_, rfl⟩
theorem lexic_Scan.number_some (s : ByteArray) : ∃ b, lexic_number.f s = some b := by
  unfold lexic_number.f
  split
  · exact ⟨_, rfl⟩
  split
  · exact ⟨_, rfl⟩
  split
  · split
    · exact ⟨_, rfl⟩
    · exact ⟨_, rfl⟩
  · exact ⟨_, rfl⟩
set_option maxHeartbeats 8000000 in
set_option maxRecDepth 100000 in
theorem lexic_Scan.scan_calls (B gb base : Nat) (s : ByteArray) (r : Int) (ys : List S32) (w0 w : World) (hB : w.heap[B]? = some (lexic_Scan.scB s 0 (.slice none 0 0))) (hG : w.heap[gb]? = some (.cells #[.int .i64 0, .int .i64 0] 25 (0, 0))) (hb : Below base w0 w) (hbase : base ≤ B) (hsz : s.size ≤ 2000) (h : lexic_Scan.scn s (s.size + 1) 0 [] = (r, ys)) :
    Calls Tryd.prog 20 #[.pointer (some ⟨B, 0, none⟩)] w fun e w' => e = .returned (.int .i64 r) ∧ ∃ (a : Nat) (v : Value), w'.heap[B]? = some (lexic_Scan.scB s a v) ∧ w'.heap[gb]? = some (.cells #[.int .i64 0, .int .i64 0] 25 (0, 0)) ∧ Kd.R k32 32 w' base (fun _ => True) v ys ∧ Below base w0 w' := by
  have HB := Aside0.mk hB
  have HG := Aside0.mk hG
  have Hb := Aside0.mk hb
  have Hbase := Aside0.mk hbase
  have H := Aside0.mk h
  clear hB hG hb hbase h
  go_enter Tryd.func20, Tryd.ntmps20
  go_wp2
  go_step3
  go_wp2
  go_step3
  go_wp2
  go_loopg [] (s.size + 1) (fun kq w' => ∃ (i : Nat) (v : Value) (xs : List S32), Aside0 (w'.heap[B]? = some (lexic_Scan.scB s i v)) ∧ Aside0 (w'.heap[gb]? = some (.cells #[.int .i64 0, .int .i64 0] 25 (0, 0))) ∧ Aside0 (Kd.R k32 32 w' base (fun _ => True) v xs) ∧ Aside0 (Below base w0 w') ∧ Aside0 (i ≤ s.size) ∧ Aside0 (xs.length ≤ i) ∧ Aside0 (s.size < kq + i) ∧ Aside0 (lexic_Scan.scn s kq i xs = (r, ys)))
  case atStart => exact ⟨0, _, [], HB, HG, ⟨Kd.R_nil _ _ _ _ _⟩, Hb, ⟨Nat.zero_le _⟩, ⟨Nat.le_refl _⟩, ⟨by omega⟩, H⟩
  case round =>
    clear HB HG Hb H
    obtain ⟨i, v, xs, HB, HG, HR, Hb, HI, HX, HK, HA⟩ := hrel
    have hx0 : wr.cell? ⟨B, 0, none⟩ = some (.string s) := blk_cell HB.out 0
    have hx1 : wr.cell? ⟨B, 1, none⟩ = some (.int .i64 i) := blk_cell HB.out 1
    have hx2 : wr.cell? ⟨B, 2, none⟩ = some v := blk_cell HB.out 2
    have hf1 : wr.frozen? ⟨B, 1, none⟩ = false := blk_frozen HB.out 1
    have hA := HA.out
    clear HA
    obtain ⟨k, rfl⟩ : ∃ k, gk = k + 1 := ⟨gk - 1, by have := HK.out; have := HI.out; omega⟩
    simp only [lexic_Scan.scn] at hA
    by_cases hlt : i < s.size
    case neg =>
      obtain rfl : i = s.size := by have := HI.out; omega
      have d1 : decide ((s.size : Int) < (s.size : Int)) = false := decide_eq_false (by omega)
      rw [if_neg hlt] at hA
      have HA := Aside0.mk hA
      clear hA hlt
      have hP := fun W hB hG hR hb => lexic_Scan.put_calls 0 B gb s.size s.size base s v xs w0 W hB hG hR hb Hbase.out hsz (Nat.le_refl _) (Nat.le_refl _) (by have := HX.out; omega)
      have HP := Aside0.mk hP
      clear hP
      go_wp2
      go_quiet (fail)
      go_wp2_with (go_at_call 36; refine (HP.out _ (blk_drewN HB.out nq) (blk_drewN HG.out nq) (Kd.R_drewN HR.out nq) (pw_below_drewN Hb.out nq)).mono ?_; rintro e w1 ⟨rfl, v1, hB1, hG1, hR1, hb1⟩; have HB1 := Aside0.mk hB1; have HG1 := Aside0.mk hG1; have HR1 := Aside0.mk hR1; have Hb1 := Aside0.mk hb1; clear hB1 hG1 hR1 hb1)
      (try rw [Exit.noGoto_ret])
      go_ret
      obtain ⟨rfl, rfl⟩ := Prod.mk.inj HA.out
      exact ⟨rfl, _, _, HB1.out, HG1.out, HR1.out, Hb1.out⟩
    case pos =>
    have d1 : decide ((i : Int) < (s.size : Int)) = true := decide_eq_true (by omega)
    have d2 : ((i : Int) < (s.size : Int)) = True := eq_true (by omega)
    have d3 : (0 ≤ (i : Int)) = True := eq_true (by omega)
    have d4 : ((i : Int) ≤ (s.size : Int)) = True := eq_true (by omega)
    have hbb : ∀ h : i < s.size, ((s[i]'h).toNat : Int) = bt s i := bt_at s i
    have hi1 : IntKind.i64.wrap ((i : Int) + 1) = ((i + 1 : Nat) : Int) := by rw [i64_w, IntWalk.wrap64_in _ (by omega)]; omega
    have hi2 : wrap64 ((i : Int) + 1) = ((i + 1 : Nat) : Int) := by rw [IntWalk.wrap64_in _ (by omega)]; omega
    rw [if_pos hlt] at hA
    obtain ⟨b, hbt⟩ : ∃ b, bt s i = b := ⟨_, rfl⟩
    have HBT := Aside0.mk hbt
    rw [hbt] at hA
    simp only [hbt] at hbb
    by_cases b32 : b = 32
    case pos =>
      rw [if_pos b32] at hA
      subst b32
      have HA := Aside0.mk hA
      clear hA hbt
      go_wp2
      go_quiet (fail)
      go_wp2
      go_roundg k
      case measure => omega
      case rel => exact ⟨i + 1, v, xs, ⟨by rw [show ((i : Int) + 1) = ((i + 1 : Nat) : Int) by omega]; exact blk_put (cs := #[.string s, .int .i64 i, v]) (blk_drewN HB.out nq) 1 _ rfl⟩, ⟨blk_far (blk_drewN HG.out nq) (fun e => blk_ne HG.out HB.out (by decide) e) _⟩, ⟨Kd.R_set (Kd.R_drewN HR.out nq) (blk_drewN HB.out nq) (by decide) 1 _⟩, ⟨(pw_below_drewN Hb.out nq).setCell Hbase.out _⟩, ⟨by omega⟩, ⟨by have := HX.out; omega⟩, ⟨by have := HK.out; omega⟩, HA⟩
    case neg =>
    rw [if_neg b32] at hA
    have n32 : (b == 32) = false := beq_eq_false_iff_ne.mpr b32
    by_cases b9 : b = 9
    case pos =>
      rw [if_pos b9] at hA
      subst b9
      have HA := Aside0.mk hA
      clear hA hbt
      go_wp2
      go_quiet (fail)
      go_wp2
      go_roundg k
      case measure => omega
      case rel => exact ⟨i + 1, v, xs, ⟨by rw [show ((i : Int) + 1) = ((i + 1 : Nat) : Int) by omega]; exact blk_put (cs := #[.string s, .int .i64 i, v]) (blk_drewN HB.out nq) 1 _ rfl⟩, ⟨blk_far (blk_drewN HG.out nq) (fun e => blk_ne HG.out HB.out (by decide) e) _⟩, ⟨Kd.R_set (Kd.R_drewN HR.out nq) (blk_drewN HB.out nq) (by decide) 1 _⟩, ⟨(pw_below_drewN Hb.out nq).setCell Hbase.out _⟩, ⟨by omega⟩, ⟨by have := HX.out; omega⟩, ⟨by have := HK.out; omega⟩, HA⟩
    case neg =>
    rw [if_neg b9] at hA
    have n9 : (b == 9) = false := beq_eq_false_iff_ne.mpr b9
    by_cases b10 : b = 10
    case pos =>
      rw [if_pos b10] at hA
      subst b10
      have HA := Aside0.mk hA
      clear hA hbt
      go_wp2
      go_quiet (fail)
      go_wp2
      go_roundg k
      case measure => omega
      case rel => exact ⟨i + 1, v, xs, ⟨by rw [show ((i : Int) + 1) = ((i + 1 : Nat) : Int) by omega]; exact blk_put (cs := #[.string s, .int .i64 i, v]) (blk_drewN HB.out nq) 1 _ rfl⟩, ⟨blk_far (blk_drewN HG.out nq) (fun e => blk_ne HG.out HB.out (by decide) e) _⟩, ⟨Kd.R_set (Kd.R_drewN HR.out nq) (blk_drewN HB.out nq) (by decide) 1 _⟩, ⟨(pw_below_drewN Hb.out nq).setCell Hbase.out _⟩, ⟨by omega⟩, ⟨by have := HX.out; omega⟩, ⟨by have := HK.out; omega⟩, HA⟩
    case neg =>
    rw [if_neg b10] at hA
    have n10 : (b == 10) = false := beq_eq_false_iff_ne.mpr b10
    by_cases b35 : b = 35
    case pos =>
      rw [if_pos b35] at hA
      subst b35
      have HA := Aside0.mk hA
      have HO := Aside0.mk (fun W hB => lexic_Scan.over31_calls lexic_Scan.notNl lexic_Scan.tells31 B i s v W hB hsz (by have := HI.out; omega))
      have HLT := Aside0.mk (lexic_Scan.ovr_lt lexic_Scan.notNl s i hlt (by rw [hbt]; decide))
      have HLE := Aside0.mk (lexic_Scan.ovr_end lexic_Scan.notNl s (s.size - i) i (by omega))
      clear hA hbt
      generalize lexic_Scan.ovr lexic_Scan.notNl s (s.size - i) i = j at HA HO HLT HLE
      go_wp2
      go_quiet (fail)
      go_wp2_with (first | (go_at_call 30; refine (HO.out _ (by (with_reducible repeat (first | refine blk_drewN ?_ _ | refine blk_drew ?_)); exact HB.out)).mono ?_; rintro e w1 ⟨rfl, hOff, hB1⟩; have HG1 := Aside0.mk (hOff.kept (by (with_reducible repeat (first | refine blk_drewN ?_ _ | refine blk_drew ?_)); exact HB.out) (by (with_reducible repeat (first | refine blk_drewN ?_ _ | refine blk_drew ?_)); exact HG.out) (by decide)); have HR1 := Aside0.mk (lexic_Scan.R_off (by (with_reducible repeat (first | refine Kd.R_drewN ?_ _ | refine Kd.R_drew ?_)); exact HR.out) (by (with_reducible repeat (first | refine blk_drewN ?_ _ | refine blk_drew ?_)); exact HB.out) (by decide) hOff); have Hb1 := Aside0.mk (Below.trans (B := base) (a := w0) (by (with_reducible repeat (first | refine pw_below_drewN ?_ _ | refine below_drew1 ?_)); exact Hb.out) (hOff.below Hbase.out)); have HB1 := Aside0.mk hB1; have y0 : w1.cell? ⟨B, 0, none⟩ = some (.string s) := blk_cell hB1 0; have y1 : w1.cell? ⟨B, 1, none⟩ = some (.int .i64 j) := blk_cell hB1 1; clear hOff hB1))
      go_roundg k
      case measure => omega
      case rel => exact ⟨j, v, xs, HB1, HG1, HR1, Hb1, HLE, ⟨by have := HX.out; have := HLT.out; omega⟩, ⟨by have := HK.out; have := HLT.out; omega⟩, HA⟩
    case neg =>
    rw [if_neg b35] at hA
    have n35 : (b == 35) = false := beq_eq_false_iff_ne.mpr b35
    have hS := fun W => lexic_word.small b W
    by_cases bs : lexic_word.isSmall b = true
    case pos =>
      rw [if_pos bs] at hA
      simp only [bs] at hS
      have HS := Aside0.mk hS
      clear hS
      have HO := Aside0.mk (fun W hB => lexic_Scan.over33_calls lexic_Scan.smDg lexic_Scan.tells33 B i s v W hB hsz (by have := HI.out; omega))
      have HLT := Aside0.mk (lexic_Scan.ovr_lt lexic_Scan.smDg s i hlt (by rw [hbt]; simp only [lexic_Scan.smDg, bs, Bool.true_or]))
      have HLE := Aside0.mk (lexic_Scan.ovr_end lexic_Scan.smDg s (s.size - i) i (by omega))
      clear hbt
      generalize lexic_Scan.ovr lexic_Scan.smDg s (s.size - i) i = j at hA HO HLT HLE
      have e1 : ((i : Int) ≤ (j : Int)) = True := eq_true (by have := HLT.out; omega)
      have e2 : ((j : Int) ≤ (s.size : Int)) = True := eq_true (by have := HLE.out; omega)
      have e3 : (0 ≤ (j : Int)) = True := eq_true (by omega)
      obtain ⟨bw, hbw⟩ := lexic_Scan.word_some (s.extract i j)
      rw [hbw] at hA
      have HW := Aside0.mk (fun W => lexic_word.calls (s.extract i j) bw W hbw)
      clear hbw
      cases bw with
      | false =>
        rw [if_neg (by decide)] at hA
        obtain ⟨rfl, rfl⟩ := Prod.mk.inj hA
        clear hA
        go_wp2
        go_quiet (fail)
        go_wp2_with (first | (go_at_call 32; (with_reducible refine (HS.out _).mono ?_); rintro e w5 ⟨rfl, ⟨n5, rfl⟩⟩) | (go_at_call 30; refine (HO.out _ (by (with_reducible repeat (first | refine blk_drewN ?_ _ | refine blk_drew ?_)); exact HB.out)).mono ?_; rintro e w1 ⟨rfl, hOff, hB1⟩; have HG1 := Aside0.mk (hOff.kept (by (with_reducible repeat (first | refine blk_drewN ?_ _ | refine blk_drew ?_)); exact HB.out) (by (with_reducible repeat (first | refine blk_drewN ?_ _ | refine blk_drew ?_)); exact HG.out) (by decide)); have HR1 := Aside0.mk (lexic_Scan.R_off (by (with_reducible repeat (first | refine Kd.R_drewN ?_ _ | refine Kd.R_drew ?_)); exact HR.out) (by (with_reducible repeat (first | refine blk_drewN ?_ _ | refine blk_drew ?_)); exact HB.out) (by decide) hOff); have Hb1 := Aside0.mk (Below.trans (B := base) (a := w0) (by (with_reducible repeat (first | refine pw_below_drewN ?_ _ | refine below_drew1 ?_)); exact Hb.out) (hOff.below Hbase.out)); have HB1 := Aside0.mk hB1; have y0 : w1.cell? ⟨B, 0, none⟩ = some (.string s) := blk_cell hB1 0; have y1 : w1.cell? ⟨B, 1, none⟩ = some (.int .i64 j) := blk_cell hB1 1; clear hOff hB1))
        go_still_tail 12, (by kernel_rfl)
        change wpList _ _ _ _ _ w1.drew
        go_wp2_with (first | (go_at_call 35; refine (HW.out _).mono ?_; rintro e w2 ⟨rfl, hb2⟩; have HB2 := Aside0.mk (blk_below (by (with_reducible repeat (first | refine blk_drewN ?_ _ | refine blk_drew ?_)); exact HB1.out) hb2); have HG2 := Aside0.mk (blk_below (by (with_reducible repeat (first | refine blk_drewN ?_ _ | refine blk_drew ?_)); exact HG1.out) hb2); have HR2 := Aside0.mk (Kd.R_below (by (with_reducible repeat (first | refine Kd.R_drewN ?_ _ | refine Kd.R_drew ?_)); exact HR1.out) hb2); have Hb2 := Aside0.mk (Below.trans (B := base) (a := w0) (by (with_reducible repeat (first | refine pw_below_drewN ?_ _ | refine below_drew1 ?_)); exact Hb1.out) (hb2.mono (by have := Hbase.out; have := blk_lt HB1.out; show base ≤ w1.heap.size; omega))); clear hb2))
        (try rw [Exit.noGoto_ret])
        go_ret
        exact ⟨rfl, _, _, HB2.out, HG2.out, HR2.out, Hb2.out⟩
      | true =>
        rw [if_pos rfl] at hA
        have HA := Aside0.mk hA
        have HP := Aside0.mk (fun W hB hG hR hb => lexic_Scan.put_calls 1 B gb i j base s v xs w0 W hB hG hR hb Hbase.out hsz (by have := HLE.out; omega) (by have := HLT.out; omega) (by have := HX.out; omega))
        clear hA
        go_wp2
        go_quiet (fail)
        go_wp2_with (first | (go_at_call 32; (with_reducible refine (HS.out _).mono ?_); rintro e w5 ⟨rfl, ⟨n5, rfl⟩⟩) | (go_at_call 30; refine (HO.out _ (by (with_reducible repeat (first | refine blk_drewN ?_ _ | refine blk_drew ?_)); exact HB.out)).mono ?_; rintro e w1 ⟨rfl, hOff, hB1⟩; have HG1 := Aside0.mk (hOff.kept (by (with_reducible repeat (first | refine blk_drewN ?_ _ | refine blk_drew ?_)); exact HB.out) (by (with_reducible repeat (first | refine blk_drewN ?_ _ | refine blk_drew ?_)); exact HG.out) (by decide)); have HR1 := Aside0.mk (lexic_Scan.R_off (by (with_reducible repeat (first | refine Kd.R_drewN ?_ _ | refine Kd.R_drew ?_)); exact HR.out) (by (with_reducible repeat (first | refine blk_drewN ?_ _ | refine blk_drew ?_)); exact HB.out) (by decide) hOff); have Hb1 := Aside0.mk (Below.trans (B := base) (a := w0) (by (with_reducible repeat (first | refine pw_below_drewN ?_ _ | refine below_drew1 ?_)); exact Hb.out) (hOff.below Hbase.out)); have HB1 := Aside0.mk hB1; have y0 : w1.cell? ⟨B, 0, none⟩ = some (.string s) := blk_cell hB1 0; have y1 : w1.cell? ⟨B, 1, none⟩ = some (.int .i64 j) := blk_cell hB1 1; clear hOff hB1))
        go_still_tail 12, (by kernel_rfl)
        change wpList _ _ _ _ _ w1.drew
        go_wp2_with (first | (go_at_call 35; refine (HW.out _).mono ?_; rintro e w2 ⟨rfl, hb2⟩; have HB2 := Aside0.mk (blk_below (by (with_reducible repeat (first | refine blk_drewN ?_ _ | refine blk_drew ?_)); exact HB1.out) hb2); have HG2 := Aside0.mk (blk_below (by (with_reducible repeat (first | refine blk_drewN ?_ _ | refine blk_drew ?_)); exact HG1.out) hb2); have HR2 := Aside0.mk (Kd.R_below (by (with_reducible repeat (first | refine Kd.R_drewN ?_ _ | refine Kd.R_drew ?_)); exact HR1.out) hb2); have Hb2 := Aside0.mk (Below.trans (B := base) (a := w0) (by (with_reducible repeat (first | refine pw_below_drewN ?_ _ | refine below_drew1 ?_)); exact Hb1.out) (hb2.mono (by have := Hbase.out; have := blk_lt HB1.out; show base ≤ w1.heap.size; omega))); clear hb2) | (go_at_call 36; refine (HP.out _ (by (with_reducible repeat (first | refine blk_drewN ?_ _ | refine blk_drew ?_)); exact HB2.out) (by (with_reducible repeat (first | refine blk_drewN ?_ _ | refine blk_drew ?_)); exact HG2.out) (by (with_reducible repeat (first | refine Kd.R_drewN ?_ _ | refine Kd.R_drew ?_)); exact HR2.out) (by (with_reducible repeat (first | refine pw_below_drewN ?_ _ | refine below_drew1 ?_)); exact Hb2.out)).mono ?_; rintro e w3 ⟨rfl, v3, hB3, hG3, hR3, hb3⟩; have HB3 := Aside0.mk hB3; have HG3 := Aside0.mk hG3; have HR3 := Aside0.mk hR3; have Hb3 := Aside0.mk hb3; clear hB3 hG3 hR3 hb3))
        go_roundg k
        case measure => omega
        case rel => exact ⟨j, v3, _, HB3, HG3, HR3, Hb3, HLE, ⟨by rw [List.length_append]; have := HX.out; have := HLT.out; simp only [List.length_cons, List.length_nil]; omega⟩, ⟨by have := HK.out; have := HLT.out; omega⟩, HA⟩
    case neg =>
    rw [if_neg bs] at hA
    rw [Bool.not_eq_true] at bs
    simp only [bs] at hS
    have HS := Aside0.mk hS
    clear hS bs
    have hD := fun W => lexic_word.digit b W
    by_cases bd : lexic_word.isDigit b = true
    case pos =>
      rw [if_pos bd] at hA
      simp only [bd] at hD
      have HD := Aside0.mk hD
      clear hD
      have HO := Aside0.mk (fun W hB => lexic_Scan.over34_calls lexic_word.isDigit lexic_word.digit B i s v W hB hsz (by have := HI.out; omega))
      have HLT := Aside0.mk (lexic_Scan.ovr_lt lexic_word.isDigit s i hlt (by rw [hbt]; exact bd))
      have HLE := Aside0.mk (lexic_Scan.ovr_end lexic_word.isDigit s (s.size - i) i (by omega))
      clear hbt
      generalize lexic_Scan.ovr lexic_word.isDigit s (s.size - i) i = j at hA HO HLT HLE
      have e1 : ((i : Int) ≤ (j : Int)) = True := eq_true (by have := HLT.out; omega)
      have e2 : ((j : Int) ≤ (s.size : Int)) = True := eq_true (by have := HLE.out; omega)
      have e3 : (0 ≤ (j : Int)) = True := eq_true (by omega)
      obtain ⟨bw, hbw⟩ := lexic_Scan.number_some (s.extract i j)
      rw [hbw] at hA
      have HW := Aside0.mk (fun W => lexic_number.calls (s.extract i j) bw W hbw)
      clear hbw
      cases bw with
      | false =>
        rw [if_neg (by decide)] at hA
        obtain ⟨rfl, rfl⟩ := Prod.mk.inj hA
        clear hA
        go_wp2
        go_quiet (fail)
        go_wp2_with (first | (go_at_call 32; (with_reducible refine (HS.out _).mono ?_); rintro e w5 ⟨rfl, ⟨n5, rfl⟩⟩) | (go_at_call 34; (with_reducible refine (HD.out _).mono ?_); rintro e w6 ⟨rfl, ⟨n6, rfl⟩⟩) | (go_at_call 30; refine (HO.out _ (by (with_reducible repeat (first | refine blk_drewN ?_ _ | refine blk_drew ?_)); exact HB.out)).mono ?_; rintro e w1 ⟨rfl, hOff, hB1⟩; have HG1 := Aside0.mk (hOff.kept (by (with_reducible repeat (first | refine blk_drewN ?_ _ | refine blk_drew ?_)); exact HB.out) (by (with_reducible repeat (first | refine blk_drewN ?_ _ | refine blk_drew ?_)); exact HG.out) (by decide)); have HR1 := Aside0.mk (lexic_Scan.R_off (by (with_reducible repeat (first | refine Kd.R_drewN ?_ _ | refine Kd.R_drew ?_)); exact HR.out) (by (with_reducible repeat (first | refine blk_drewN ?_ _ | refine blk_drew ?_)); exact HB.out) (by decide) hOff); have Hb1 := Aside0.mk (Below.trans (B := base) (a := w0) (by (with_reducible repeat (first | refine pw_below_drewN ?_ _ | refine below_drew1 ?_)); exact Hb.out) (hOff.below Hbase.out)); have HB1 := Aside0.mk hB1; have y0 : w1.cell? ⟨B, 0, none⟩ = some (.string s) := blk_cell hB1 0; have y1 : w1.cell? ⟨B, 1, none⟩ = some (.int .i64 j) := blk_cell hB1 1; clear hOff hB1))
        go_still_tail 12, (by kernel_rfl)
        change wpList _ _ _ _ _ w1.drew
        go_wp2_with (first | (go_at_call 27; refine (HW.out _).mono ?_; rintro e w2 ⟨rfl, hb2⟩; have HB2 := Aside0.mk (blk_below (by (with_reducible repeat (first | refine blk_drewN ?_ _ | refine blk_drew ?_)); exact HB1.out) hb2); have HG2 := Aside0.mk (blk_below (by (with_reducible repeat (first | refine blk_drewN ?_ _ | refine blk_drew ?_)); exact HG1.out) hb2); have HR2 := Aside0.mk (Kd.R_below (by (with_reducible repeat (first | refine Kd.R_drewN ?_ _ | refine Kd.R_drew ?_)); exact HR1.out) hb2); have Hb2 := Aside0.mk (Below.trans (B := base) (a := w0) (by (with_reducible repeat (first | refine pw_below_drewN ?_ _ | refine below_drew1 ?_)); exact Hb1.out) (hb2.mono (by have := Hbase.out; have := blk_lt HB1.out; show base ≤ w1.heap.size; omega))); clear hb2))
        (try rw [Exit.noGoto_ret])
        go_ret
        exact ⟨rfl, _, _, HB2.out, HG2.out, HR2.out, Hb2.out⟩
      | true =>
        rw [if_pos rfl] at hA
        have HA := Aside0.mk hA
        have HP := Aside0.mk (fun W hB hG hR hb => lexic_Scan.put_calls 2 B gb i j base s v xs w0 W hB hG hR hb Hbase.out hsz (by have := HLE.out; omega) (by have := HLT.out; omega) (by have := HX.out; omega))
        clear hA
        go_wp2
        go_quiet (fail)
        go_wp2_with (first | (go_at_call 32; (with_reducible refine (HS.out _).mono ?_); rintro e w5 ⟨rfl, ⟨n5, rfl⟩⟩) | (go_at_call 34; (with_reducible refine (HD.out _).mono ?_); rintro e w6 ⟨rfl, ⟨n6, rfl⟩⟩) | (go_at_call 30; refine (HO.out _ (by (with_reducible repeat (first | refine blk_drewN ?_ _ | refine blk_drew ?_)); exact HB.out)).mono ?_; rintro e w1 ⟨rfl, hOff, hB1⟩; have HG1 := Aside0.mk (hOff.kept (by (with_reducible repeat (first | refine blk_drewN ?_ _ | refine blk_drew ?_)); exact HB.out) (by (with_reducible repeat (first | refine blk_drewN ?_ _ | refine blk_drew ?_)); exact HG.out) (by decide)); have HR1 := Aside0.mk (lexic_Scan.R_off (by (with_reducible repeat (first | refine Kd.R_drewN ?_ _ | refine Kd.R_drew ?_)); exact HR.out) (by (with_reducible repeat (first | refine blk_drewN ?_ _ | refine blk_drew ?_)); exact HB.out) (by decide) hOff); have Hb1 := Aside0.mk (Below.trans (B := base) (a := w0) (by (with_reducible repeat (first | refine pw_below_drewN ?_ _ | refine below_drew1 ?_)); exact Hb.out) (hOff.below Hbase.out)); have HB1 := Aside0.mk hB1; have y0 : w1.cell? ⟨B, 0, none⟩ = some (.string s) := blk_cell hB1 0; have y1 : w1.cell? ⟨B, 1, none⟩ = some (.int .i64 j) := blk_cell hB1 1; clear hOff hB1))
        go_still_tail 12, (by kernel_rfl)
        change wpList _ _ _ _ _ w1.drew
        go_wp2_with (first | (go_at_call 27; refine (HW.out _).mono ?_; rintro e w2 ⟨rfl, hb2⟩; have HB2 := Aside0.mk (blk_below (by (with_reducible repeat (first | refine blk_drewN ?_ _ | refine blk_drew ?_)); exact HB1.out) hb2); have HG2 := Aside0.mk (blk_below (by (with_reducible repeat (first | refine blk_drewN ?_ _ | refine blk_drew ?_)); exact HG1.out) hb2); have HR2 := Aside0.mk (Kd.R_below (by (with_reducible repeat (first | refine Kd.R_drewN ?_ _ | refine Kd.R_drew ?_)); exact HR1.out) hb2); have Hb2 := Aside0.mk (Below.trans (B := base) (a := w0) (by (with_reducible repeat (first | refine pw_below_drewN ?_ _ | refine below_drew1 ?_)); exact Hb1.out) (hb2.mono (by have := Hbase.out; have := blk_lt HB1.out; show base ≤ w1.heap.size; omega))); clear hb2) | (go_at_call 36; refine (HP.out _ (by (with_reducible repeat (first | refine blk_drewN ?_ _ | refine blk_drew ?_)); exact HB2.out) (by (with_reducible repeat (first | refine blk_drewN ?_ _ | refine blk_drew ?_)); exact HG2.out) (by (with_reducible repeat (first | refine Kd.R_drewN ?_ _ | refine Kd.R_drew ?_)); exact HR2.out) (by (with_reducible repeat (first | refine pw_below_drewN ?_ _ | refine below_drew1 ?_)); exact Hb2.out)).mono ?_; rintro e w3 ⟨rfl, v3, hB3, hG3, hR3, hb3⟩; have HB3 := Aside0.mk hB3; have HG3 := Aside0.mk hG3; have HR3 := Aside0.mk hR3; have Hb3 := Aside0.mk hb3; clear hB3 hG3 hR3 hb3))
        go_roundg k
        case measure => omega
        case rel => exact ⟨j, v3, _, HB3, HG3, HR3, Hb3, HLE, ⟨by rw [List.length_append]; have := HX.out; have := HLT.out; simp only [List.length_cons, List.length_nil]; omega⟩, ⟨by have := HK.out; have := HLT.out; omega⟩, HA⟩
    case neg =>
    rw [if_neg bd] at hA
    rw [Bool.not_eq_true] at bd
    simp only [bd] at hD
    have HD := Aside0.mk hD
    clear hD bd
    by_cases b123 : b = 123
    case pos =>
      rw [if_pos b123] at hA
      subst b123
      have HA := Aside0.mk hA
      have HP := Aside0.mk (fun W hB hG hR hb => lexic_Scan.put_calls 3 B gb i (i + 1) base s v xs w0 W hB hG hR hb Hbase.out hsz (by omega) (by omega) (by have := HX.out; omega))
      have HB1 := Aside0.mk (fun (n : Nat) => (by rw [show ((i : Int) + 1) = ((i + 1 : Nat) : Int) by omega]; exact blk_put (cs := #[.string s, .int .i64 i, v]) (blk_drewN HB.out n) 1 _ rfl : ((wr.drewN n).setCell ⟨B, 1, none⟩ (.int .i64 ((i : Int) + 1))).heap[B]? = some (lexic_Scan.scB s (i + 1 : Nat) v)))
      have HG1 := Aside0.mk (fun (n : Nat) => (blk_far (blk_drewN HG.out n) (fun e => blk_ne HG.out HB.out (by decide) e) _ : ((wr.drewN n).setCell ⟨B, 1, none⟩ (.int .i64 ((i : Int) + 1))).heap[gb]? = some (.cells #[.int .i64 0, .int .i64 0] 25 (0, 0))))
      have HR1 := Aside0.mk (fun (n : Nat) => (Kd.R_set (Kd.R_drewN HR.out n) (blk_drewN HB.out n) (by decide) 1 _ : Kd.R k32 32 ((wr.drewN n).setCell ⟨B, 1, none⟩ (.int .i64 ((i : Int) + 1))) base (fun _ => True) v xs))
      have Hb1 := Aside0.mk (fun (n : Nat) => ((pw_below_drewN Hb.out n).setCell Hbase.out _ : Below base w0 ((wr.drewN n).setCell ⟨B, 1, none⟩ (.int .i64 ((i : Int) + 1)))))
      clear hA hbt
      go_wp2
      go_quiet (fail)
      go_wp2_with (first | (go_at_call 32; (with_reducible refine (HS.out _).mono ?_); rintro e w5 ⟨rfl, ⟨n5, rfl⟩⟩) | (go_at_call 34; (with_reducible refine (HD.out _).mono ?_); rintro e w6 ⟨rfl, ⟨n6, rfl⟩⟩) | (go_at_call 36; refine (HP.out _ (HB1.out _) (HG1.out _) (HR1.out _) (Hb1.out _)).mono ?_; rintro e w3 ⟨rfl, v3, hB3, hG3, hR3, hb3⟩; have HB3 := Aside0.mk hB3; have HG3 := Aside0.mk hG3; have HR3 := Aside0.mk hR3; have Hb3 := Aside0.mk hb3; clear hB3 hG3 hR3 hb3))
      go_roundg k
      case measure => omega
      case rel => exact ⟨i + 1, v3, _, HB3, HG3, HR3, Hb3, ⟨by omega⟩, ⟨by rw [List.length_append]; have := HX.out; simp only [List.length_cons, List.length_nil]; omega⟩, ⟨by have := HK.out; omega⟩, HA⟩
    case neg =>
    rw [if_neg b123] at hA
    have n123 : (b == 123) = false := beq_eq_false_iff_ne.mpr b123
    by_cases b125 : b = 125
    case pos =>
      rw [if_pos b125] at hA
      subst b125
      have HA := Aside0.mk hA
      have HP := Aside0.mk (fun W hB hG hR hb => lexic_Scan.put_calls 3 B gb i (i + 1) base s v xs w0 W hB hG hR hb Hbase.out hsz (by omega) (by omega) (by have := HX.out; omega))
      have HB1 := Aside0.mk (fun (n : Nat) => (by rw [show ((i : Int) + 1) = ((i + 1 : Nat) : Int) by omega]; exact blk_put (cs := #[.string s, .int .i64 i, v]) (blk_drewN HB.out n) 1 _ rfl : ((wr.drewN n).setCell ⟨B, 1, none⟩ (.int .i64 ((i : Int) + 1))).heap[B]? = some (lexic_Scan.scB s (i + 1 : Nat) v)))
      have HG1 := Aside0.mk (fun (n : Nat) => (blk_far (blk_drewN HG.out n) (fun e => blk_ne HG.out HB.out (by decide) e) _ : ((wr.drewN n).setCell ⟨B, 1, none⟩ (.int .i64 ((i : Int) + 1))).heap[gb]? = some (.cells #[.int .i64 0, .int .i64 0] 25 (0, 0))))
      have HR1 := Aside0.mk (fun (n : Nat) => (Kd.R_set (Kd.R_drewN HR.out n) (blk_drewN HB.out n) (by decide) 1 _ : Kd.R k32 32 ((wr.drewN n).setCell ⟨B, 1, none⟩ (.int .i64 ((i : Int) + 1))) base (fun _ => True) v xs))
      have Hb1 := Aside0.mk (fun (n : Nat) => ((pw_below_drewN Hb.out n).setCell Hbase.out _ : Below base w0 ((wr.drewN n).setCell ⟨B, 1, none⟩ (.int .i64 ((i : Int) + 1)))))
      clear hA hbt
      go_wp2
      go_quiet (fail)
      go_wp2_with (first | (go_at_call 32; (with_reducible refine (HS.out _).mono ?_); rintro e w5 ⟨rfl, ⟨n5, rfl⟩⟩) | (go_at_call 34; (with_reducible refine (HD.out _).mono ?_); rintro e w6 ⟨rfl, ⟨n6, rfl⟩⟩) | (go_at_call 36; refine (HP.out _ (HB1.out _) (HG1.out _) (HR1.out _) (Hb1.out _)).mono ?_; rintro e w3 ⟨rfl, v3, hB3, hG3, hR3, hb3⟩; have HB3 := Aside0.mk hB3; have HG3 := Aside0.mk hG3; have HR3 := Aside0.mk hR3; have Hb3 := Aside0.mk hb3; clear hB3 hG3 hR3 hb3))
      go_roundg k
      case measure => omega
      case rel => exact ⟨i + 1, v3, _, HB3, HG3, HR3, Hb3, ⟨by omega⟩, ⟨by rw [List.length_append]; have := HX.out; simp only [List.length_cons, List.length_nil]; omega⟩, ⟨by have := HK.out; omega⟩, HA⟩
    case neg =>
    rw [if_neg b125] at hA
    have n125 : (b == 125) = false := beq_eq_false_iff_ne.mpr b125
    by_cases b59 : b = 59
    case pos =>
      rw [if_pos b59] at hA
      subst b59
      have HA := Aside0.mk hA
      have HP := Aside0.mk (fun W hB hG hR hb => lexic_Scan.put_calls 3 B gb i (i + 1) base s v xs w0 W hB hG hR hb Hbase.out hsz (by omega) (by omega) (by have := HX.out; omega))
      have HB1 := Aside0.mk (fun (n : Nat) => (by rw [show ((i : Int) + 1) = ((i + 1 : Nat) : Int) by omega]; exact blk_put (cs := #[.string s, .int .i64 i, v]) (blk_drewN HB.out n) 1 _ rfl : ((wr.drewN n).setCell ⟨B, 1, none⟩ (.int .i64 ((i : Int) + 1))).heap[B]? = some (lexic_Scan.scB s (i + 1 : Nat) v)))
      have HG1 := Aside0.mk (fun (n : Nat) => (blk_far (blk_drewN HG.out n) (fun e => blk_ne HG.out HB.out (by decide) e) _ : ((wr.drewN n).setCell ⟨B, 1, none⟩ (.int .i64 ((i : Int) + 1))).heap[gb]? = some (.cells #[.int .i64 0, .int .i64 0] 25 (0, 0))))
      have HR1 := Aside0.mk (fun (n : Nat) => (Kd.R_set (Kd.R_drewN HR.out n) (blk_drewN HB.out n) (by decide) 1 _ : Kd.R k32 32 ((wr.drewN n).setCell ⟨B, 1, none⟩ (.int .i64 ((i : Int) + 1))) base (fun _ => True) v xs))
      have Hb1 := Aside0.mk (fun (n : Nat) => ((pw_below_drewN Hb.out n).setCell Hbase.out _ : Below base w0 ((wr.drewN n).setCell ⟨B, 1, none⟩ (.int .i64 ((i : Int) + 1)))))
      clear hA hbt
      go_wp2
      go_quiet (fail)
      go_wp2_with (first | (go_at_call 32; (with_reducible refine (HS.out _).mono ?_); rintro e w5 ⟨rfl, ⟨n5, rfl⟩⟩) | (go_at_call 34; (with_reducible refine (HD.out _).mono ?_); rintro e w6 ⟨rfl, ⟨n6, rfl⟩⟩) | (go_at_call 36; refine (HP.out _ (HB1.out _) (HG1.out _) (HR1.out _) (Hb1.out _)).mono ?_; rintro e w3 ⟨rfl, v3, hB3, hG3, hR3, hb3⟩; have HB3 := Aside0.mk hB3; have HG3 := Aside0.mk hG3; have HR3 := Aside0.mk hR3; have Hb3 := Aside0.mk hb3; clear hB3 hG3 hR3 hb3))
      go_roundg k
      case measure => omega
      case rel => exact ⟨i + 1, v3, _, HB3, HG3, HR3, Hb3, ⟨by omega⟩, ⟨by rw [List.length_append]; have := HX.out; simp only [List.length_cons, List.length_nil]; omega⟩, ⟨by have := HK.out; omega⟩, HA⟩
    case neg =>
    rw [if_neg b59] at hA
    have n59 : (b == 59) = false := beq_eq_false_iff_ne.mpr b59
    obtain ⟨rfl, rfl⟩ := Prod.mk.inj hA
    clear hA hbt
    go_wp2
    go_quiet (fail)
    go_wp2_with (first | (go_at_call 32; (with_reducible refine (HS.out _).mono ?_); rintro e w5 ⟨rfl, ⟨n5, rfl⟩⟩) | (go_at_call 34; (with_reducible refine (HD.out _).mono ?_); rintro e w6 ⟨rfl, ⟨n6, rfl⟩⟩))
    (try rw [Exit.noGoto_ret])
    go_ret
    exact ⟨rfl, _, _, (by (with_reducible repeat (first | refine blk_drewN ?_ _ | refine blk_drew ?_)); exact HB.out), (by (with_reducible repeat (first | refine blk_drewN ?_ _ | refine blk_drew ?_)); exact HG.out), (by (with_reducible repeat (first | refine Kd.R_drewN ?_ _ | refine Kd.R_drew ?_)); exact HR.out), (by (with_reducible repeat (first | refine pw_below_drewN ?_ _ | refine below_drew1 ?_)); exact Hb.out)⟩
def lexic_Scan.f (s : ByteArray) : Option (List S32 × Int × Int) := if s.size > 2000 then some ([], 3, 0) else if (lexic_Scan.scn s (s.size + 1) 0 []).1 < 0 then some ((lexic_Scan.scn s (s.size + 1) 0 []).2, 0, 0) else some ([], 80, (lexic_Scan.scn s (s.size + 1) 0 []).1)
set_option maxHeartbeats 8000000 in
theorem lexic_Scan.calls (s : ByteArray) (r1 : List S32) (r2 r3 : Int) (w : World) (h : lexic_Scan.f s = some (r1, r2, r3)) :
    Calls Tryd.prog 9 #[.string s] w fun e w' => ∃ v0_ : Value, e = .returned (.tuple #[v0_, .agg #[.int .i64 r2, .int .i64 r3]]) ∧ Kd.R k32 32 w' w.heap.size (fun _ => True) v0_ r1 ∧ Below w.heap.size w w' := by
  have hu25 := Tryd.underlying25
  have hu32 := Tryd.underlying32
  have HB := Aside0.mk (Below.refl w.heap.size w)
  unfold lexic_Scan.f at h
  by_cases c2 : s.size > 2000
  · rw [if_pos c2] at h
    have c2b0 : decide (2000 < (s.size : Int)) = true := decide_eq_true (by omega)
    have c2b1 : decide (2000 < s.size) = true := decide_eq_true c2
    clear c2
    simp only [Option.some.injEq, Prod.mk.injEq] at h
    obtain ⟨rfl, rfl, rfl⟩ := h
    go_enter Tryd.func9, Tryd.ntmps9
    go_wp2_with (first | ((with_reducible refine gate_dst (N := 3) rfl ?_); refine box_event ?hg (N := 3) ?hd (cs := #[.int .i64 0, .int .i64 0]) (t := 25) ?hr ?_; (case hd => rfl); (case hg => rfl); (case hr => first | (go_simp; done) | (go_simp; rfl)); intro gb102 hg w3 hbox hb; have n0_ := Aside0.mk (below_step (by repeat (first | (with_reducible first | exact HB.out | apply below_alloc | apply pw_below_drewN | apply below_drew1) | exact HB.out)) hb); have n1_ := Aside0.mk (hbox); have n3_ := Aside0.mk ((by rw [hg]; exact (below_size (by repeat (first | (with_reducible first | exact HB.out | apply below_alloc | apply pw_below_drewN | apply below_drew1) | exact HB.out))) : w.heap.size ≤ gb102)); clear HB; have HB := n0_; have BK102 := n1_; have GE102 := n3_; clear n0_ n1_ n3_; clear hb hbox hg; have hcz4_0 : w3.cell? ⟨gb102, 0, none⟩ = some (.int .i64 0) := (blk_cell BK102.out 0).trans rfl; have hcz4_1 : w3.cell? ⟨gb102, 1, none⟩ = some (.int .i64 0) := (blk_cell BK102.out 1).trans rfl; have hfz4_0 := blk_frozen BK102.out 0; have hfz4_1 := blk_frozen BK102.out 1))
    refine bodyPost_ret (results_tc rfl _ _ gb102 25 #[.int .i64 3, .int .i64 0] (0, 0) _ rfl (by (with_reducible repeat (first | refine blk_drewN ?_ _ | refine blk_drew ?_ | refine blk_alloc ?_ _)); refine blk_put (cs := #[.int .i64 3, .int .i64 0]) ?_ 1 _ rfl; (with_reducible repeat (first | refine blk_drewN ?_ _ | refine blk_drew ?_ | refine blk_alloc ?_ _)); refine blk_put (cs := #[.int .i64 0, .int .i64 0]) ?_ 0 _ rfl; (with_reducible repeat (first | refine blk_drewN ?_ _ | refine blk_drew ?_ | refine blk_alloc ?_ _)); exact BK102.out) Tryd.underlying25 rfl (by kernel_rfl)) rfl ?_
    exact ⟨_, by first | rfl | (simp [errW_none, errW_some] <;> rfl) | (simp [*, errW_none, errW_some] <;> rfl), Kd.R_nil _ _ _ _ _, by repeat (first | (with_reducible first | exact HB.out | apply below_alloc | apply pw_below_drewN | apply below_drew1 | refine below_set ?_ GE102.out) | exact HB.out)⟩
  · rw [if_neg c2] at h
    have c2b0 : decide (2000 < (s.size : Int)) = false := decide_eq_false (by omega)
    have c2b1 : decide (2000 < s.size) = false := decide_eq_false c2
    have hsz : s.size ≤ 2000 := by omega
    clear c2
    obtain ⟨q, ys, hq⟩ : ∃ q ys, lexic_Scan.scn s (s.size + 1) 0 [] = (q, ys) := ⟨_, _, rfl⟩
    rw [hq] at h
    have HQ := Aside0.mk (fun B gb W hB hG hb hbase => lexic_Scan.scan_calls B gb w.heap.size s q ys w W hB hG hb hbase hsz hq)
    clear hq
    by_cases c3 : q < 0
    · have c3b : decide (0 ≤ q) = false := decide_eq_false (by omega)
      rw [if_pos c3] at h
      simp only [Option.some.injEq, Prod.mk.injEq] at h
      obtain ⟨rfl, rfl, rfl⟩ := h
      clear c3
      go_enter Tryd.func9, Tryd.ntmps9
      go_wp2_with (first | ((with_reducible refine gate_dst (N := 3) rfl ?_); refine box_event ?hg (N := 3) ?hd (cs := #[.int .i64 0, .int .i64 0]) (t := 25) ?hr ?_; (case hd => rfl); (case hg => rfl); (case hr => first | (go_simp; done) | (go_simp; rfl)); intro gb102 hg w3 hbox hb; have n0_ := Aside0.mk (below_step (by repeat (first | (with_reducible first | exact HB.out | apply below_alloc | apply pw_below_drewN | apply below_drew1) | exact HB.out)) hb); have n1_ := Aside0.mk (hbox); have n3_ := Aside0.mk ((by rw [hg]; exact (below_size (by repeat (first | (with_reducible first | exact HB.out | apply below_alloc | apply pw_below_drewN | apply below_drew1) | exact HB.out))) : w.heap.size ≤ gb102)); clear HB; have HB := n0_; have BK102 := n1_; have GE102 := n3_; clear n0_ n1_ n3_; clear hb hbox hg; have hcz4_0 : w3.cell? ⟨gb102, 0, none⟩ = some (.int .i64 0) := (blk_cell BK102.out 0).trans rfl; have hcz4_1 : w3.cell? ⟨gb102, 1, none⟩ = some (.int .i64 0) := (blk_cell BK102.out 1).trans rfl; have hfz4_0 := blk_frozen BK102.out 0; have hfz4_1 := blk_frozen BK102.out 1) | (go_at_call 20; refine (HQ.out w3.heap.size gb102 _ (blk_new _ _) (blk_alloc BK102.out _) (below_alloc HB.out _) (below_size HB.out)).mono ?_; rintro e w4 ⟨rfl, a4, v4, hB4, hG4, hR4, hb4⟩; obtain ⟨A4, n4, c4, rfl⟩ := lexic_Scan.R_form hR4; have x4 : w4.cell? ⟨w3.heap.size, 2, none⟩ = some (.slice A4 n4 c4) := blk_cell hB4 2; have hc40 : w4.cell? ⟨gb102, 0, none⟩ = some (.int .i64 0) := blk_cell hG4 0; have hc41 : w4.cell? ⟨gb102, 1, none⟩ = some (.int .i64 0) := blk_cell hG4 1; have hf40 := blk_frozen hG4 0; have hf41 := blk_frozen hG4 1; have HG4 := Aside0.mk hG4; have HR4 := Aside0.mk hR4; have Hb4 := Aside0.mk hb4; clear hB4 hG4 hR4 hb4 hcz4_0 hcz4_1 hfz4_0 hfz4_1))
      refine bodyPost_ret (results_tc rfl _ _ gb102 25 #[.int .i64 0, .int .i64 0] (0, 0) _ rfl (by (with_reducible repeat (first | refine blk_drewN ?_ _ | refine blk_drew ?_ | refine blk_alloc ?_ _)); refine blk_put (cs := #[.int .i64 0, .int .i64 0]) ?_ 1 _ rfl; (with_reducible repeat (first | refine blk_drewN ?_ _ | refine blk_drew ?_ | refine blk_alloc ?_ _)); refine blk_put (cs := #[.int .i64 0, .int .i64 0]) ?_ 0 _ rfl; (with_reducible repeat (first | refine blk_drewN ?_ _ | refine blk_drew ?_ | refine blk_alloc ?_ _)); exact HG4.out) Tryd.underlying25 rfl (by kernel_rfl)) rfl ?_
      exact ⟨_, rfl, (by refine Kd.R_set (g := gb102) (t := 25) (cells := #[.int .i64 0, .int .i64 0]) (Kd.R_set HR4.out HG4.out (by decide) 0 _) (blk_put HG4.out 0 _ rfl) (by decide) 1 _), by repeat (first | (with_reducible first | exact Hb4.out | apply below_alloc | apply pw_below_drewN | apply below_drew1 | refine below_set ?_ GE102.out) | exact Hb4.out)⟩
    · have c3b : decide (0 ≤ q) = true := decide_eq_true (by omega)
      rw [if_neg c3] at h
      simp only [Option.some.injEq, Prod.mk.injEq] at h
      obtain ⟨rfl, rfl, rfl⟩ := h
      clear c3
      go_enter Tryd.func9, Tryd.ntmps9
      go_wp2_with (first | ((with_reducible refine gate_dst (N := 3) rfl ?_); refine box_event ?hg (N := 3) ?hd (cs := #[.int .i64 0, .int .i64 0]) (t := 25) ?hr ?_; (case hd => rfl); (case hg => rfl); (case hr => first | (go_simp; done) | (go_simp; rfl)); intro gb102 hg w3 hbox hb; have n0_ := Aside0.mk (below_step (by repeat (first | (with_reducible first | exact HB.out | apply below_alloc | apply pw_below_drewN | apply below_drew1) | exact HB.out)) hb); have n1_ := Aside0.mk (hbox); have n3_ := Aside0.mk ((by rw [hg]; exact (below_size (by repeat (first | (with_reducible first | exact HB.out | apply below_alloc | apply pw_below_drewN | apply below_drew1) | exact HB.out))) : w.heap.size ≤ gb102)); clear HB; have HB := n0_; have BK102 := n1_; have GE102 := n3_; clear n0_ n1_ n3_; clear hb hbox hg; have hcz4_0 : w3.cell? ⟨gb102, 0, none⟩ = some (.int .i64 0) := (blk_cell BK102.out 0).trans rfl; have hcz4_1 : w3.cell? ⟨gb102, 1, none⟩ = some (.int .i64 0) := (blk_cell BK102.out 1).trans rfl; have hfz4_0 := blk_frozen BK102.out 0; have hfz4_1 := blk_frozen BK102.out 1) | (go_at_call 20; refine (HQ.out w3.heap.size gb102 _ (blk_new _ _) (blk_alloc BK102.out _) (below_alloc HB.out _) (below_size HB.out)).mono ?_; rintro e w4 ⟨rfl, a4, v4, hB4, hG4, hR4, hb4⟩; obtain ⟨A4, n4, c4, rfl⟩ := lexic_Scan.R_form hR4; have x4 : w4.cell? ⟨w3.heap.size, 2, none⟩ = some (.slice A4 n4 c4) := blk_cell hB4 2; have hc40 : w4.cell? ⟨gb102, 0, none⟩ = some (.int .i64 0) := blk_cell hG4 0; have hc41 : w4.cell? ⟨gb102, 1, none⟩ = some (.int .i64 0) := blk_cell hG4 1; have hf40 := blk_frozen hG4 0; have hf41 := blk_frozen hG4 1; have HG4 := Aside0.mk hG4; have HR4 := Aside0.mk hR4; have Hb4 := Aside0.mk hb4; clear hB4 hG4 hR4 hb4 hcz4_0 hcz4_1 hfz4_0 hfz4_1))
      refine bodyPost_ret (results_tc rfl _ _ gb102 25 #[.int .i64 80, .int .i64 q] (0, 0) _ rfl (by (with_reducible repeat (first | refine blk_drewN ?_ _ | refine blk_drew ?_ | refine blk_alloc ?_ _)); refine blk_put (cs := #[.int .i64 80, .int .i64 0]) ?_ 1 _ rfl; (with_reducible repeat (first | refine blk_drewN ?_ _ | refine blk_drew ?_ | refine blk_alloc ?_ _)); refine blk_put (cs := #[.int .i64 0, .int .i64 0]) ?_ 0 _ rfl; (with_reducible repeat (first | refine blk_drewN ?_ _ | refine blk_drew ?_ | refine blk_alloc ?_ _)); exact HG4.out) Tryd.underlying25 rfl (by kernel_rfl)) rfl ?_
      exact ⟨_, rfl, Kd.R_nil _ _ _ _ _, by repeat (first | (with_reducible first | exact Hb4.out | apply below_alloc | apply pw_below_drewN | apply below_drew1 | refine below_set ?_ GE102.out) | exact Hb4.out)⟩

end Go.Proofs.YtghpbcfkldbpjabDoor.PL

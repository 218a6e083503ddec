/- sort's closure: two timers in order. -/
import Derived.Test.YtcknocglaimcpaaWhS
import Derived.Laws.Cover1

namespace Go.Proofs.Ytcknocglaimcpaa.WA
open Go.RowKit Go.Proofs.YtcknocglaimcpaaW.PrintWords Go.Proofs.YtcknocglaimcpaaW.PrintLast Go.Proofs.YtcknocglaimcpaaW.PrintMore
open Go.Proofs.Ytcknocglaimcpaa.PW Go.Proofs.Ytcknocglaimcpaa.Wh Go.Maps
set_option linter.unusedVariables false
set_option linter.unusedSimpArgs false
set_option maxHeartbeats 8000000
set_option maxRecDepth 100000
def cI (a b : Int) : Int := if a < b then -1 else if b < a then 1 else 0
def cS (a b : ByteArray) : Int := if Op.bytesLess a.toList b.toList = true then -1 else if a.toList = b.toList then 0 else 1
def cT (x y : S38) : Int := if cI x.f1 y.f1 ≠ 0 then cI x.f1 y.f1 else cS x.f0 y.f0
theorem nan_int (a : Int) (w : World) : Calls Try.prog 40 #[.int .i64 a] w fun e w' => e = .returned (.bool false) ∧ w' = w := by
  go_enter Try.func40, Try.ntmps40
  go_wp2
  go_ret
  exact ⟨by first | rfl | simp, rfl⟩
theorem nan_string (a : ByteArray) (w : World) : Calls Try.prog 41 #[.string a] w fun e w' => e = .returned (.bool false) ∧ w' = w := by
  go_enter Try.func41, Try.ntmps41
  go_wp2
  go_ret
  exact ⟨by first | rfl | simp, rfl⟩
theorem cmp_int (a b : Int) (w : World) : Calls Try.prog 35 #[.int .i64 a, .int .i64 b] w fun e w' => e = .returned (.int .i64 (cI a b)) ∧ w' = w := by
  have h1 := nan_int a
  have h2 := nan_int b
  by_cases c8 : a < b
  · have HR : Aside0 (cI a b = -1) := ⟨if_pos c8⟩
    have c8b : decide (a < b) = true := decide_eq_true c8
    clear c8
    go_enter Try.func35, Try.ntmps35
    go_wp2_with (go_at_call 40; first | (refine (h1 _).mono ?_; rintro e w' ⟨rfl, rfl⟩) | (refine (h2 _).mono ?_; rintro e w' ⟨rfl, rfl⟩))
    go_ret
    exact ⟨by rw [HR.out]; rfl, rfl⟩
  · have c8b : decide (a < b) = false := decide_eq_false c8
    by_cases c9 : b < a
    · have HR : Aside0 (cI a b = 1) := ⟨by unfold cI; rw [if_neg c8, if_pos c9]⟩
      have c9b : decide (b < a) = true := decide_eq_true c9
      clear c8 c9
      go_enter Try.func35, Try.ntmps35
      go_wp2_with (go_at_call 40; first | (refine (h1 _).mono ?_; rintro e w' ⟨rfl, rfl⟩) | (refine (h2 _).mono ?_; rintro e w' ⟨rfl, rfl⟩))
      go_ret
      exact ⟨by rw [HR.out]; rfl, rfl⟩
    · have HR : Aside0 (cI a b = 0) := ⟨by unfold cI; rw [if_neg c8, if_neg c9]⟩
      have c9b : decide (b < a) = false := decide_eq_false c9
      clear c8 c9
      go_enter Try.func35, Try.ntmps35
      go_wp2_with (go_at_call 40; first | (refine (h1 _).mono ?_; rintro e w' ⟨rfl, rfl⟩) | (refine (h2 _).mono ?_; rintro e w' ⟨rfl, rfl⟩))
      go_ret
      exact ⟨by rw [HR.out]; rfl, rfl⟩
theorem cmp_string (a b : ByteArray) (w : World) : Calls Try.prog 36 #[.string a, .string b] w fun e w' => e = .returned (.int .i64 (cS a b)) ∧ w' = w := by
  have h1 := nan_string a
  have h2 := nan_string b
  cases c8 : Op.bytesLess a.toList b.toList with
  | true =>
    have HR : Aside0 (cS a b = -1) := ⟨if_pos c8⟩
    go_enter Try.func36, Try.ntmps36
    go_wp2_with (go_at_call 41; first | (refine (h1 _).mono ?_; rintro e w' ⟨rfl, rfl⟩) | (refine (h2 _).mono ?_; rintro e w' ⟨rfl, rfl⟩))
    go_ret
    exact ⟨by rw [HR.out]; rfl, rfl⟩
  | false =>
    by_cases hk : a.toList = b.toList
    · have HR : Aside0 (cS a b = 0) := ⟨by unfold cS; rw [if_neg (by rw [c8]; decide), if_pos hk]⟩
      have hkb := eq_true hk
      have hkb2 : (a.toList == b.toList) = true := beq_iff_eq.2 hk
      clear hk
      go_enter Try.func36, Try.ntmps36
      go_wp2_with (go_at_call 41; first | (refine (h1 _).mono ?_; rintro e w' ⟨rfl, rfl⟩) | (refine (h2 _).mono ?_; rintro e w' ⟨rfl, rfl⟩))
      go_ret
      exact ⟨by rw [HR.out]; rfl, rfl⟩
    · have HR : Aside0 (cS a b = 1) := ⟨by unfold cS; rw [if_neg (by rw [c8]; decide), if_neg hk]⟩
      have hkb := eq_false hk
      have hkb2 : (a.toList == b.toList) = false := beq_eq_false_iff_ne.2 hk
      clear hk
      go_enter Try.func36, Try.ntmps36
      go_wp2_with (go_at_call 41; first | (refine (h1 _).mono ?_; rintro e w' ⟨rfl, rfl⟩) | (refine (h2 _).mono ?_; rintro e w' ⟨rfl, rfl⟩))
      go_ret
      exact ⟨by rw [HR.out]; rfl, rfl⟩
theorem or_calls (w : World) (g : Nat) (x y r : Int) (hr : r = if x ≠ 0 then x else y) (h0 : w.cell? ⟨g, 0, none⟩ = some (.int .i64 x)) (h1 : w.cell? ⟨g, 1, none⟩ = some (.int .i64 y)) :
    Calls Try.prog 34 #[.slice (some ⟨g, 0, none⟩) 2 2] w fun e w' => e = .returned (.int .i64 r) ∧ w' = w := by
  have HRR := Aside0.mk hr
  clear hr
  go_enter Try.func34, Try.ntmps34
  go_wp2
  go_loopg [8] 3 (fun kq v8 w' => ∃ i : Nat, v8 = .int .i64 i ∧ Aside0 (i + kq = 3 ∧ i ≤ 2 ∧ (1 ≤ i → x = 0) ∧ (2 ≤ i → y = 0)) ∧ Aside0 (w' = w))
  case atStart => exact ⟨0, rfl, ⟨by omega, by omega, fun h => absurd h (by decide), fun h => absurd h (by decide)⟩, ⟨rfl⟩⟩
  case round =>
    obtain ⟨i, rfl, HI, HW⟩ := hrel
    obtain rfl := HW.out
    rcases (show i = 0 ∨ i = 1 ∨ i = 2 by have := HI.out; omega) with rfl | rfl | rfl
    · by_cases hx : x = 0
      · subst hx
        go_wp2
        go_roundg (gk - 1)
        case measure => have := HI.out; omega
        case rel => exact ⟨1, rfl, ⟨by have := HI.out; omega, by omega, fun _ => by first | rfl | trivial, fun h => absurd h (by decide)⟩, ⟨rfl⟩⟩
      · have hxb : (x != 0) = true := bne_iff_ne.2 hx
        have HR : Aside0 (r = x) := ⟨by rw [HRR.out]; exact if_pos hx⟩
        clear hx
        go_wp2
        go_ret
        exact ⟨by rw [HR.out]; rfl, rfl⟩
    · by_cases hy : y = 0
      · subst hy
        go_wp2
        go_roundg (gk - 1)
        case measure => have := HI.out; omega
        case rel => exact ⟨2, rfl, ⟨by have := HI.out; omega, by omega, fun _ => HI.out.2.2.1 (by decide), fun _ => by first | rfl | trivial⟩, ⟨rfl⟩⟩
      · have hyb : (y != 0) = true := bne_iff_ne.2 hy
        have HR : Aside0 (r = y) := ⟨by rw [HRR.out]; exact if_neg (fun h => h (HI.out.2.2.1 (by decide)))⟩
        clear hy
        go_wp2
        go_ret
        exact ⟨by rw [HR.out]; rfl, rfl⟩
    · have HR : Aside0 (r = 0) := ⟨by rw [HRR.out, if_neg (fun h => h (HI.out.2.2.1 (by decide)))]; exact HI.out.2.2.2 (by decide)⟩
      go_wp2
      go_ret
      exact ⟨by rw [HR.out]; rfl, rfl⟩
end Go.Proofs.Ytcknocglaimcpaa.WA

/- slices.IndexFunc with Drop's closure. -/
import Derived.Test.YtcknocglaimcpaaWhB
namespace Go.Proofs.Ytcknocglaimcpaa.WA
open Go.RowKit Go.Proofs.YtcknocglaimcpaaW.PrintWords Go.Proofs.YtcknocglaimcpaaW.PrintLast Go.Proofs.YtcknocglaimcpaaW.PrintMore
open Go.Proofs.Ytcknocglaimcpaa.PW Go.Proofs.Ytcknocglaimcpaa.Wh
set_option linter.unusedVariables false
set_option linter.unusedSimpArgs false
set_option maxHeartbeats 8000000
set_option maxRecDepth 100000
def isT (y x : S38) : Bool := decide (x.f0 = y.f0 ∧ x.f1 = y.f1)
/-- The first place of a timer, behind so many; -1: it is not there. -/
def ixT (y : S38) : List S38 → Nat → Int
  | [], _ => -1
  | x :: l, i => if isT y x = true then (i : Int) else ixT y l (i + 1)
theorem ixT_drop (y : S38) (xs : List S38) (i : Nat) (h : i < xs.length) : ixT y (xs.drop i) i = if isT y xs[i] = true then (i : Int) else ixT y (xs.drop (i + 1)) (i + 1) := by
  rw [List.drop_eq_getElem_cons h]; rfl
theorem index_calls (w : World) (A : Option Addr) (c : Nat) (xs : List S38) (y : S38) (g : Nat) (hC : Kd.C k38 w A xs.length xs) (hl : xs.length ≤ 1000000)
    (h0 : w.cell? ⟨g, 0, none⟩ = some (.string y.f0)) (h1 : w.cell? ⟨g, 1, none⟩ = some (.int .i64 y.f1)) :
    Calls Try.prog 37 #[.slice A xs.length c, .func (.func 31) #[] #[.pointer (some ⟨g, 0, none⟩)]] w fun e w' => e = .returned (.int .i64 (ixT y xs 0)) ∧ Below w.heap.size w w' := by
  have hu38 := Try.underlying38
  have hg : g < w.heap.size := World.block_lt_of_cell? _ _ h0
  have HC := Aside0.mk hC
  have HX := Aside0.mk hl
  have HG := Aside0.mk (And.intro hg (And.intro h0 h1))
  clear hC hl hg h0 h1
  go_enter Try.func37, Try.ntmps37
  go_wp2
  go_loopg [8] (xs.length + 1) (fun kq v8 w' => ∃ i : Nat, v8 = .int .i64 i ∧ Aside0 (i + kq = xs.length + 1 ∧ i ≤ xs.length ∧ ixT y xs 0 = ixT y (xs.drop i) i) ∧ Aside0 (Below w.heap.size w w'))
  case atStart => exact ⟨0, rfl, ⟨by omega, by omega, rfl⟩, ⟨Below.refl _ _⟩⟩
  case round =>
    obtain ⟨i, rfl, HI, HB⟩ := hrel
    by_cases hi : i < xs.length
    case neg =>
      have hib : decide (i < xs.length) = false := decide_eq_false hi
      have HR : Aside0 (ixT y xs 0 = -1) := ⟨by rw [HI.out.2.2, List.drop_of_length_le (by omega)]; rfl⟩
      clear hi
      go_wp2
      go_ret
      exact ⟨by rw [HR.out]; rfl, HB.out⟩
    have hib : decide (i < xs.length) = true := decide_eq_true hi
    obtain ⟨ad, hA, c0, c1⟩ := at_T38 (Kd.C_below HC.out HB.out) (i : Int) (by omega) (by omega)
    have hrd : Aside0 (rd_T38 xs (i : Int) = xs[i]) := ⟨by unfold rd_T38; simp [List.getD, hi]⟩
    rw [hrd.out, Int.toNat_natCast] at c0 c1
    generalize hx : xs[i] = x at c0 c1
    have HX2 := Aside0.mk hx
    have hgb := HB.out
    have hcall := same_calls wr x y g ((hgb.cell (p := ⟨g, 0, none⟩) HG.out.1).trans HG.out.2.1) ((hgb.cell (p := ⟨g, 1, none⟩) HG.out.1).trans HG.out.2.2)
    have hw1 : wrap64 ((i : Int) + 1) = ((i + 1 : Nat) : Int) := by rw [wrap64_is (by have := HX.out; omega) (by have := HX.out; omega)]; omega
    have HW1 := Aside0.mk hw1
    have hir : (0 : Int) ≤ (i : Int) := by omega
    have hil : (i : Int) < (xs.length : Int) := by omega
    clear hrd hgb hw1 hx
    subst hA
    have HIX : Aside0 (ixT y xs 0 = if isT y x = true then (i : Int) else ixT y (xs.drop (i + 1)) (i + 1)) := ⟨by
      rw [HI.out.2.2, ixT_drop y xs i (by omega), HX2.out]⟩
    change Calls Try.prog 31 _ wr (fun e w' => e = .returned (.bool (isT y x)) ∧ _) at hcall
    cases hb : isT y x with
    | true =>
      rw [hb] at hcall
      have HR : Aside0 (ixT y xs 0 = (i : Int)) := ⟨by rw [HIX.out, if_pos hb]⟩
      clear hb
      go_wp2_with (go_at_call 31; refine hcall.mono ?_; rintro e w' ⟨rfl, rfl⟩)
      go_ret
      exact ⟨by rw [HR.out]; rfl, below_alloc HB.out _⟩
    | false =>
      rw [hb] at hcall
      have HR : Aside0 (ixT y xs 0 = ixT y (xs.drop (i + 1)) (i + 1)) := ⟨by rw [HIX.out, hb]; rfl⟩
      clear hb
      go_wp2_with (go_at_call 31; refine hcall.mono ?_; rintro e w' ⟨rfl, rfl⟩)
      go_roundg (gk - 1)
      case measure => have := HI.out; omega
      case rel => exact ⟨i + 1, by first | rw [HW1.out] | rfl, ⟨by have := HI.out; omega, by omega, HR.out⟩, ⟨below_alloc HB.out _⟩⟩
end Go.Proofs.Ytcknocglaimcpaa.WA

/- WheelSkips: for every time, list of acts and two steps: to go on by some, and then by more, is to go on by both together; all timers are what comes from now on; no conditions. -/
import Derived.Test.YtcknocglaimcpaaRows
import Derived.Test.YtcknocglaimcpaaWhZf
import Derived.WalkKit
import Derived.ProofKit
import Derived.OpenShut
import Derived.ShutString
import Derived.ChangeOld
import Derived.Below
import Derived.SizedLaws
import Derived.Carry
import Derived.Lib.SmallJoins
namespace Go.Proofs.Ytcknocglaimcpaa.wheelSkips
open Go.ChangeShapes Go.WideShapes Go.ChangeAt Go.RowKit
open Go.ChangeMaps (open_string shut_string)
set_option linter.unusedVariables false
theorem own : ownKnob Try.prog.godebug = none := by kernel_rfl
theorem cells40 : Try.prog.cellsOf 40 = 2 := by kernel_rfl
theorem okWide_arr {r : Reach} {b0 : Nat} {W : World} {v : Value} (h : Value.okWide Try.prog W r b0 40 v) : ∃ cs, v = .agg cs ∧ cs.size = 2 := by
  have ht := Try.underlying40
  simp only [Value.okWide, ht] at h
  obtain ⟨cs, h1, h2, _⟩ := h
  exact ⟨cs, h1, h2.trans cells40⟩
theorem two_open {H : Type} {enc : TypeId × Value → H} {W : World} {base : Nat} {spare : Nat → Bool} {held : Bool} {r : Reach} {b0 : Nat} {v : Value} {d : DataW H} {p : List MemPlace} (hv : Value.okWide Try.prog W r b0 40 v) (h : DataW.Trod enc Try.prog W base spare held 40 v d p) :
    ∃ a b : Int, v = .agg #[.int .i64 a, .int .i64 b] := by
  obtain ⟨cs, rfl, hsz⟩ := okWide_arr hv
  obtain ⟨c0, c1, rfl⟩ := Go.Joins.array2 hsz
  obtain ⟨fuel, hf⟩ := h
  obtain ⟨xs, m, _, _, _, hl, he⟩ := DataW.trod_array Try.underlying40 hf
  match xs, hl with
  | [y0, y1], _ =>
    have e0 := he 0 (by decide)
    have e1 := he 1 (by decide)
    obtain ⟨n0, g0, _, _⟩ := DataW.trod_int Try.underlying3 e0
    obtain ⟨n1, g1, _, _⟩ := DataW.trod_int Try.underlying3 e1
    obtain rfl : c0 = .int .i64 n0 := by simpa [WA.cells3, Value.cells] using g0
    obtain rfl : c1 = .int .i64 n1 := by simpa [WA.cells3, Value.cells] using g1
    exact ⟨n0, n1, rfl⟩
set_option maxRecDepth 100000 in
theorem lifted (os : Os) (started : os.Started) (H : Type) (enc : TypeId × Value → H) :
    ReturnsInHanded {} Try.checked os 4 .any (Rows.wheelSkipsSpec.pre6 enc Try.prog Try.f4 Rows.wheelSkipsRow.domain false) (Rows.wheelSkipsSpec.post enc Try.prog Try.f4 false true false false) := by
  refine returnsInHanded_of_change_sized (C := Try.checked) own started (by kernel_rfl) Try.func4
    (ChangeSpec.witness6 (enc := enc) (C := Try.checked) false ⟨#[], #[.int .i64 0, .slice none 0 0, .agg #[.int .i64 0, .int .i64 0]], []⟩ 8 (by kernel_rfl) (by kernel_rfl) (by kernel_rfl) (by kernel_rfl)) ?_
  intro W base args ds gs before hval0 hW hcnd hsz0 _
  have hval : ∀ (j : Nat) t v, Try.f4.params[j]? = some t → args[j]? = some v → Value.okWide Try.prog W .any base t v := hval0
  have hW' := hW
  obtain ⟨p, q, hA0, hV, rfl, hfz, hnd⟩ := hW
  have hA : DataW.TrodAll enc Try.prog W 0 (fun _ => true) true Try.f4.params.toList args.toList ds p := hA0
  rw [Try.params4] at hA hval
  obtain ⟨v0, vs0, d0, ds0, p0, q0, hargs, rfl, rfl, h0, r0⟩ := trodAll_cons hA
  obtain ⟨v1, vs1, d1, ds1, p1, q1, rfl, rfl, rfl, h1, r1⟩ := trodAll_cons r0
  obtain ⟨v2, vs2, d2, ds2, p2, q2, rfl, rfl, rfl, h2, r2⟩ := trodAll_cons r1
  obtain ⟨rfl, rfl, rfl⟩ := trodAll_nil r2
  obtain rfl : args = #[v0, v1, v2] := by cases args; simp_all
  obtain ⟨rfl, rfl⟩ := trodVars_none hV
  obtain ⟨a0, rfl, rfl, rfl, w0⟩ := open_int Try.underlying3 (hval 0 3 v0 rfl rfl) h0
  have h1k := h1
  obtain ⟨A1, n1, c1, rfl⟩ := okWide_slice Try.underlying22 (hval 1 22 v1 rfl rfl)
  obtain ⟨fuel, hf⟩ := h1
  obtain ⟨l, hl, hc, hC, _⟩ := WA.acts_open hf
  subst hl
  have h2k := h2
  obtain ⟨x, y, rfl⟩ := two_open (hval 2 40 v2 rfl rfl) h2
  obtain ⟨fuel2, hf2⟩ := h2
  clear hA0 hval0 hsz0
  refine (WA.skips_calls W a0 A1 c1 l x y hC).mono fun e W' ⟨he, bel⟩ => ?_
  subst he
  exact ⟨_, rfl, _, _, _, [], _, [], hW', trodAll_mk1 (shut_bool Try.underlying4 _), (trodAll_cons_mk (shut_int Try.underlying3 w0) (trodAll_cons_mk (Below.trod WA.laidOut (by kernel_rfl) (of_decide_eq_true (by kernel_rfl)) h1k bel (fun x hx => DataW.trod_lt _ _ _ _ hf x hx)) (trodAll_cons_mk (Below.trod WA.laidOut (by kernel_rfl) (of_decide_eq_true (by kernel_rfl)) h2k bel (fun x hx => DataW.trod_lt _ _ _ _ hf2 x hx)) trodAll_mk0))), rfl, bel.frame _, fun h => by cases h⟩
theorem over : Rows.wheelSkipsRow.holds Try.pinned (OpenSpec.ofChange Rows.wheelSkipsSpec) :=
  OpenClaim.holds_of_wide 4 Try.f4 rfl rfl rfl rfl rfl rfl rfl ⟨rfl, rfl, rfl, rfl, rfl⟩ rfl rfl rfl rfl rfl (by kernel_rfl) Try.func4 (by kernel_rfl)
    (of_decide_eq_true (by kernel_rfl)) (by unfold Func.isWrapper; first | (rw [if_pos (by decide +kernel)]; kernel_rfl) | (rw [if_neg (by decide +kernel)]; exact ⟨rfl, rfl⟩))
    (fun os started H enc _ => lifted os started H enc)
theorem proved : Rows.WheelSkipsSaid := over
#print axioms proved
end Go.Proofs.Ytcknocglaimcpaa.wheelSkips
namespace Go.Proofs.Ytcknocglaimcpaa
/-- The row, under a short name, for the claim. -/
theorem wheelSkips_holds : Rows.WheelSkipsSaid := wheelSkips.proved
end Go.Proofs.Ytcknocglaimcpaa

/- NoteBack: for every input the law returns true, and each argument reads behind the call as it read before; the variables that start-up code lays hold what the card ties. No conditions beyond those typed. -/
import Derived.Test.YtlaeihdldofkcaaDoorRows
import Derived.Test.YtlaeihdldofkcaaDoorPMx12
import Derived.Test.YtlaeihdldofkcaaDoorNtRow
import Derived.Test.YtlaeihdldofkcaaDoorPureNoteBack
import Derived.Carry
import Derived.WalkKit
import Derived.ProofKit
import Derived.OpenShut
import Derived.ShutString
import Derived.ChangeOld
import Derived.Below
import Derived.SizedLaws
import Derived.Test.YtlaeihdldofkcaaDoorTie
import Derived.Test.YtlaeihdldofkcaaDoorCards
import Derived.Lay
import Derived.LaidOnce
import Derived.SevenTiedAt
namespace Go.Proofs.YtlaeihdldofkcaaDoor.noteBack
open Go.ChangeShapes Go.WideShapes Go.ChangeAt Go.RowKit
open Go.ChangeMaps (open_string shut_string)
set_option linter.unusedVariables false
theorem own : ownKnob Tryd.prog.godebug = none := by kernel_rfl
set_option maxRecDepth 100000 in
theorem lifted (os : Os) (started : os.Started) (H : Type) (enc : TypeId × Value → H) :
    ReturnsInHanded {} Tryd.checked os 4 .any (fun w args => (Rows.noteBackSpec.pre enc Tryd.prog Tryd.f4 [] false w args ∧ laidMetH Tryd.prog Rows.noteBackRow.laid w) ∧ sizedMet enc Tryd.prog Tryd.f4 (OpenSpec.ofChange Rows.noteBackSpec) false w args) (Rows.noteBackSpec.post enc Tryd.prog Tryd.f4 false true false false) := by
  refine IR.wrap (C := Tryd.checked) (X := fun w _ => laidMetH Tryd.prog Rows.noteBackRow.laid w) (fun _ _ _ hh h => h.of_heap hh) own started (by kernel_rfl) Tryd.func4
    (ChangeSpec.witness_shaped (enc := enc) (C := Tryd.checked) (os := os) (X := fun w _ => laidMetH Tryd.prog Rows.noteBackRow.laid w) false (World.laidAll Tryd.prog os Rows.noteBackRow.laid) #[.agg #[.int .i64 0, .int .i64 0, .int .i64 0, .int .i64 0, .int .i64 0, .int .i64 0, .int .i64 0, .int .i64 0, .int .i64 0, .slice none 0 0, .string ByteArray.empty, .int .i64 0], .string ByteArray.empty] 9 (World.laidAll_os _ _ _)
      (World.shaped_of_ZipB (by kernel_rfl) (by kernel_rfl)) (by kernel_rfl) (by kernel_rfl) (by kernel_rfl)
      (by rw [MakeChecks.laidMetH_plain _ _ _ (by kernel_rfl)]; exact laidMet_laidAll _ (by kernel_rfl) (by kernel_rfl))) ?_
  intro W base args ds gs before hval0 hW hsz0 hL hsh
  have hsz : (DataW.weightsEach Tryd.prog (Tryd.f4.params.toList ++ Rows.noteBackSpec.plain.varTypes Tryd.prog) (ds ++ gs)).all (· ≤ reachBytes) = true := hsz0
  have hval : ∀ (j : Nat) t v, Tryd.f4.params[j]? = some t → args[j]? = some v → Value.okWide Tryd.prog W .any base t v := hval0
  have hW' := hW
  obtain ⟨p, q, hA0, hV, rfl, hfz, hnd⟩ := hW
  have hA : DataW.TrodAll enc Tryd.prog W 0 (fun _ => true) true Tryd.f4.params.toList args.toList ds p := hA0
  rw [Tryd.params4] at hA hval hsz
  obtain ⟨v0, vs0, d0, ds0, p0, q0, hargs0, rfl, rfl, h0, r0⟩ := trodAll_cons hA
  obtain ⟨v1, vs1, d1, ds1, p1, q1, hargs1, rfl, rfl, h1, r1⟩ := trodAll_cons r0
  obtain ⟨rfl, rfl, rfl⟩ := trodAll_nil r1
  obtain rfl : args = #[v0, v1] := by cases args; simp_all
  obtain ⟨rfl, rfl⟩ := trodVars_none hV
  have hv0 := hval 0 39 v0 rfl rfl
  have k0 := h0
  obtain ⟨fa0, fb0, fc0, fd0, fe0, ff0, a0, b0, e0, A0, c0, l0, s0, g0, rfl, hc0, hC0⟩ := IR.frame_open hv0 h0
  have hv1 := hval 1 9 v1 rfl rfl
  have k1 := h1
  obtain ⟨s1, rfl, rfl, rfl, ws1⟩ := open_string Tryd.underlying9 hv1 h1
  clear hA0 hval0 hsz0 hsz
  have hWH := IR.wh hsh hL
  obtain ⟨k, hk⟩ := Pure.NoteBack fa0 fb0 fc0 fd0 fe0 ff0 a0 b0 e0 l0 s0 g0 s1
  refine (PN.ententelaw13_NoteBack.calls k fa0 fb0 fc0 fd0 fe0 ff0 a0 b0 e0 A0 c0 l0 s0 g0 s1 true W hC0 hc0 hWH hk).mono fun e W' ⟨he, bel⟩ => ?_
  subst he
  have B0_ := Below.trod IR.laidOut (t := 39) (by kernel_rfl) (of_decide_eq_true (by kernel_rfl)) k0 bel (by obtain ⟨_, hf⟩ := k0; exact fun x hx => DataW.trod_lt _ _ _ _ hf x hx)
  have B1_ := Below.trod IR.laidOut (t := 9) (by kernel_rfl) (of_decide_eq_true (by kernel_rfl)) k1 bel (by obtain ⟨_, hf⟩ := k1; exact fun x hx => DataW.trod_lt _ _ _ _ hf x hx)
  exact ⟨_, rfl, _, _, _, [], _, [], hW', trodAll_mk1 (shut_bool Tryd.underlying4 _), (trodAll_cons_mk B0_ (trodAll_cons_mk B1_ trodAll_mk0)), rfl, bel.frame _, fun h => by cases h⟩
theorem over : Rows.noteBackRow.holds Tryd.pinned (OpenSpec.ofChange Rows.noteBackSpec) :=
  OpenClaim.holds_of_wide 4 Tryd.f4 rfl rfl rfl rfl rfl rfl rfl ⟨rfl, rfl, rfl, rfl, rfl⟩ rfl rfl rfl rfl rfl (by kernel_rfl) Tryd.func4 (by kernel_rfl)
    (of_decide_eq_true (by kernel_rfl)) (by unfold Func.isWrapper; first | (rw [if_pos (by decide +kernel)]; kernel_rfl) | (rw [if_neg (by decide +kernel)]; exact ⟨rfl, rfl⟩))
    (fun os started H enc _ => lifted os started H enc)
theorem proved : Rows.NoteBackCardSaid :=
  Claim7.holds_tied_plain_at .later [] [.data, .data, .data, .data, .sentinel, .sentinel, .pinned] true (true, "9aa4bb9e383809161a320485365f4f36936a56c63198180c4c6354d1d696b7a3") true over (fun _ h => by cases h) (by kernel_rfl) (fun _ h => by cases h) noteBack_row_tie rfl ⟨rfl, rfl⟩ (by kernel_rfl) rfl
    (fun f fn hf hfn => by
      obtain rfl : f = 4 := Option.some.inj ((show Tryd.prog.funcNamed "entente/ententelaw13.NoteBack" = some 4 by kernel_rfl).symm.trans hf) |>.symm
      obtain rfl : fn = Tryd.f4 := (Option.some.inj (Tryd.func4.symm.trans hfn)).symm
      exact ⟨by kernel_rfl, fun j t ht => by
        rw [Tryd.params4] at ht
        have hm := Array.mem_of_getElem? ht
        have hall : (Tryd.f4.params.toList.all fun u => !Tryd.prog.wantsStandIn u) = true := by kernel_rfl
        rw [Tryd.params4] at hall
        exact (show Tryd.prog.wantsStandIn t = false by simpa using List.all_eq_true.1 hall t (by simpa using hm))⟩)
    (by kernel_rfl)
#print axioms proved
end Go.Proofs.YtlaeihdldofkcaaDoor.noteBack
namespace Go.Proofs.YtlaeihdldofkcaaDoor
/-- The row, under a short name, for the claim. -/
theorem noteBack_holds : Rows.NoteBackCardSaid := noteBack.proved
end Go.Proofs.YtlaeihdldofkcaaDoor

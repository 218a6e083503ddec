/- IdentFamily: for every input the law returns true, and each argument reads behind the call as it read before; the variables that start-up code lays hold what the card ties. No conditions beyond those typed. -/
import Derived.Test.YtnlljacklhgfgaaDoorRows
import Derived.Test.YtnlljacklhgfgaaDoorPKx15
import Derived.Test.YtnlljacklhgfgaaDoorIdRow
import Derived.Test.YtnlljacklhgfgaaDoorPureIdentFamily
import Derived.Carry
import Derived.WalkKit
import Derived.ProofKit
import Derived.OpenShut
import Derived.ShutString
import Derived.ChangeOld
import Derived.Below
import Derived.SizedLaws
import Derived.Test.YtnlljacklhgfgaaDoorTie
import Derived.Test.YtnlljacklhgfgaaDoorCards
import Derived.Lay
import Derived.LaidOnce
import Derived.SevenTiedAt
namespace Go.Proofs.YtnlljacklhgfgaaDoor.identFamily
open Go.ChangeShapes Go.WideShapes Go.ChangeAt Go.RowKit
open Go.ChangeMaps (open_string shut_string)
set_option linter.unusedVariables false
theorem own : ownKnob Tryd.prog.godebug = none := by kernel_rfl
set_option maxRecDepth 100000 in
theorem lifted (os : Os) (started : os.Started) (H : Type) (enc : TypeId × Value → H) :
    ReturnsInHanded {} Tryd.checked os 3 .any (fun w args => (Rows.identFamilySpec.pre enc Tryd.prog Tryd.f3 [] false w args ∧ laidMetH Tryd.prog Rows.identFamilyRow.laid w) ∧ sizedMet enc Tryd.prog Tryd.f3 (OpenSpec.ofChange Rows.identFamilySpec) false w args) (Rows.identFamilySpec.post enc Tryd.prog Tryd.f3 false true false false) := by
  refine IR.wrap (C := Tryd.checked) (X := fun w _ => laidMetH Tryd.prog Rows.identFamilyRow.laid w) (fun _ _ _ hh h => h.of_heap hh) own started (by kernel_rfl) Tryd.func3
    (ChangeSpec.witness_shaped (enc := enc) (C := Tryd.checked) (os := os) (X := fun w _ => laidMetH Tryd.prog Rows.identFamilyRow.laid w) false (World.laidAll Tryd.prog os Rows.identFamilyRow.laid) #[.agg #[.int .i64 0, .int .i64 0, .slice none 0 0], .int .i64 0, .int .i64 0] 10 (World.laidAll_os _ _ _)
      (World.shaped_of_ZipB (by kernel_rfl) (by kernel_rfl)) (by kernel_rfl) (by kernel_rfl) (by kernel_rfl)
      (by rw [MakeChecks.laidMetH_plain _ _ _ (by kernel_rfl)]; exact laidMet_laidAll _ (by kernel_rfl) (by kernel_rfl))) ?_
  intro W base args ds gs before hval0 hW hsz0 hL hsh
  have hsz : (DataW.weightsEach Tryd.prog (Tryd.f3.params.toList ++ Rows.identFamilySpec.plain.varTypes Tryd.prog) (ds ++ gs)).all (· ≤ reachBytes) = true := hsz0
  have hval : ∀ (j : Nat) t v, Tryd.f3.params[j]? = some t → args[j]? = some v → Value.okWide Tryd.prog W .any base t v := hval0
  have hW' := hW
  obtain ⟨p, q, hA0, hV, rfl, hfz, hnd⟩ := hW
  have hA : DataW.TrodAll enc Tryd.prog W 0 (fun _ => true) true Tryd.f3.params.toList args.toList ds p := hA0
  rw [Tryd.params3] at hA hval hsz
  obtain ⟨v0, vs0, d0, ds0, p0, q0, hargs0, rfl, rfl, h0, r0⟩ := trodAll_cons hA
  obtain ⟨v1, vs1, d1, ds1, p1, q1, hargs1, rfl, rfl, h1, r1⟩ := trodAll_cons r0
  obtain ⟨v2, vs2, d2, ds2, p2, q2, hargs2, rfl, rfl, h2, r2⟩ := trodAll_cons r1
  obtain ⟨rfl, rfl, rfl⟩ := trodAll_nil r2
  obtain rfl : args = #[v0, v1, v2] := by cases args; simp_all
  obtain ⟨rfl, rfl⟩ := trodVars_none hV
  have hv0 := hval 0 24 v0 rfl rfl
  have k0 := h0
  obtain ⟨a0, b0, A0, c0, l0, rfl, hc0, hC0⟩ := IR.id_open hv0 h0
  have hv1 := hval 1 3 v1 rfl rfl
  have k1 := h1
  obtain ⟨n1, rfl, rfl, rfl, wn1⟩ := open_int Tryd.underlying3 hv1 h1
  have hv2 := hval 2 3 v2 rfl rfl
  have k2 := h2
  obtain ⟨n2, rfl, rfl, rfl, wn2⟩ := open_int Tryd.underlying3 hv2 h2
  clear hA0 hval0 hsz0 hsz
  have hWH := IR.wh hsh hL
  obtain ⟨k, hk⟩ := Pure.IdentFamily a0 b0 l0 n1 n2
  refine (PI.ententelaw03_IdentFamily.calls k a0 b0 _ A0 c0 l0 n1 n2 true W (IR.shared hc0 hC0) hWH hk).mono fun e W' ⟨he, bel⟩ => ?_
  subst he
  have B0_ := Below.trod IR.laidOut (t := 24) (by kernel_rfl) (of_decide_eq_true (by kernel_rfl)) k0 bel (by obtain ⟨_, hf⟩ := k0; exact fun x hx => DataW.trod_lt _ _ _ _ hf x hx)
  have B1_ := Below.trod IR.laidOut (t := 3) (by kernel_rfl) (of_decide_eq_true (by kernel_rfl)) k1 bel (by obtain ⟨_, hf⟩ := k1; exact fun x hx => DataW.trod_lt _ _ _ _ hf x hx)
  have B2_ := Below.trod IR.laidOut (t := 3) (by kernel_rfl) (of_decide_eq_true (by kernel_rfl)) k2 bel (by obtain ⟨_, hf⟩ := k2; exact fun x hx => DataW.trod_lt _ _ _ _ hf x hx)
  exact ⟨_, rfl, _, _, _, [], _, [], hW', trodAll_mk1 (shut_bool Tryd.underlying4 _), (trodAll_cons_mk B0_ (trodAll_cons_mk B1_ (trodAll_cons_mk B2_ trodAll_mk0))), rfl, bel.frame _, fun h => by cases h⟩
theorem over : Rows.identFamilyRow.holds Tryd.pinned (OpenSpec.ofChange Rows.identFamilySpec) :=
  OpenClaim.holds_of_wide 3 Tryd.f3 rfl rfl rfl rfl rfl rfl rfl ⟨rfl, rfl, rfl, rfl, rfl⟩ rfl rfl rfl rfl rfl (by kernel_rfl) Tryd.func3 (by kernel_rfl)
    (of_decide_eq_true (by kernel_rfl)) (by unfold Func.isWrapper; first | (rw [if_pos (by decide +kernel)]; kernel_rfl) | (rw [if_neg (by decide +kernel)]; exact ⟨rfl, rfl⟩))
    (fun os started H enc _ => lifted os started H enc)
theorem proved : Rows.IdentFamilyCardSaid :=
  Claim7.holds_tied_plain_at .later [] [.data, .data, .data, .data, .sentinel, .sentinel, .pinned] true (true, "8f14f2c78d19bcf33f2e620dee3b5f50204ca74ddae7c074b5c4ffccc34b31d7") true over (fun _ h => by cases h) (by kernel_rfl) (fun _ h => by cases h) identFamily_row_tie rfl ⟨rfl, rfl⟩ (by kernel_rfl) rfl
    (fun f fn hf hfn => by
      obtain rfl : f = 3 := Option.some.inj ((show Tryd.prog.funcNamed "entente/ententelaw03.IdentFamily" = some 3 by kernel_rfl).symm.trans hf) |>.symm
      obtain rfl : fn = Tryd.f3 := (Option.some.inj (Tryd.func3.symm.trans hfn)).symm
      exact ⟨by kernel_rfl, fun j t ht => by
        rw [Tryd.params3] at ht
        have hm := Array.mem_of_getElem? ht
        have hall : (Tryd.f3.params.toList.all fun u => !Tryd.prog.wantsStandIn u) = true := by kernel_rfl
        rw [Tryd.params3] at hall
        exact (show Tryd.prog.wantsStandIn t = false by simpa using List.all_eq_true.1 hall t (by simpa using hm))⟩)
    (by kernel_rfl)
#print axioms proved
end Go.Proofs.YtnlljacklhgfgaaDoor.identFamily
namespace Go.Proofs.YtnlljacklhgfgaaDoor
/-- The row, under a short name, for the claim. -/
theorem identFamily_holds : Rows.IdentFamilyCardSaid := identFamily.proved
end Go.Proofs.YtnlljacklhgfgaaDoor

/- NoteChecks: for every input the law returns true, and each argument reads behind the call as it read before; the variables that start-up code lays hold what the card ties. No conditions beyond those typed. -/
import Derived.Test.YtlaeihdldofkcaaDoorNtRh
import Derived.Test.YtlaeihdldofkcaaDoorNtSr
import Derived.Test.YtlaeihdldofkcaaDoorPMx14
import Derived.Test.YtlaeihdldofkcaaDoorNtG
import Derived.Test.YtlaeihdldofkcaaDoorNtFw
import Derived.Test.YtlaeihdldofkcaaDoorPMx15
import Derived.Test.YtlaeihdldofkcaaDoorRows
import Derived.Test.YtlaeihdldofkcaaDoorNtRow
import Derived.Carry
import Derived.WalkKit
import Derived.ProofKit
import Derived.OpenShut
import Derived.ShutString
import Derived.ChangeOld
import Derived.Below
import Derived.SizedLaws
import Derived.Test.YtlaeihdldofkcaaDoorTie
import Derived.Test.YtlaeihdldofkcaaDoorCards
import Derived.Lay
import Derived.LaidOnce
import Derived.SevenTiedAt
namespace Go.Proofs.YtlaeihdldofkcaaDoor.ND
open Go.RowKit Go.Proofs.YtlaeihdldofkcaaDoorW.PrintWords Go.Proofs.YtlaeihdldofkcaaDoor.B Go.Proofs.YtlaeihdldofkcaaDoor.PN Go.Proofs.YtlaeihdldofkcaaDoor.IA Go.Proofs.YtlaeihdldofkcaaDoor.IB Go.Proofs.YtlaeihdldofkcaaDoor.IC Go.Proofs.YtlaeihdldofkcaaDoor.NN
open Go.Proofs.YtlaeihdldofkcaaDoor.IS (ba ba_data ba_size ba_app shv shv_yes shv_no showL rshow_ev digit_ev itoa_len)
open Go.Proofs.YtlaeihdldofkcaaDoor.IP (show_len)
set_option linter.unusedSimpArgs false
set_option linter.unusedVariables false
theorem rd_word (a0 : Int) (h0 : 0 ≤ a0) (h : a0 < 8) : rdOf ByteArray.empty note_word.ws a0 = wordB a0 := by
  obtain ⟨n, rfl⟩ : ∃ n : Nat, a0 = (n : Int) := ⟨a0.toNat, by omega⟩
  rw [Go.Proofs.YtlaeihdldofkcaaDoor.IP.rd_bytes note_word.ws n (by show n < 8; omega)]
  unfold wordB
  rw [Int.toNat_natCast, List.getD_eq_getElem?_getD, List.getElem?_eq_getElem (by show n < 8; omega)]
  rfl
theorem nrshow_ev (a0 a1 a2 : Int) (l : List S50) (s : ByteArray) (a5 : Int) : Ev (fun k => ententeref13_Show.f k a0 a1 a2 l s a5) (showv a0 a1 a2 l s a5) := by
  unfold ententeref13_Show.f
  refine Ev.bind (rchk_ev a0 a1 a2 l s a5) ?_
  by_cases h : okN a0 a1 a2 l s a5
  case neg =>
    rw [show showv a0 a1 a2 l s a5 = (⟨#[]⟩, 130) from if_neg h]
    exact ev_neg (fun h' => h (chkN0.1 h')) (Ev.some rfl)
  rw [show showv a0 a1 a2 l s a5 = (textN a0 a1 a2 l s a5, 0) from if_pos h]
  obtain ⟨k1, k2, hg, h1, hs, hw⟩ := h
  refine ev_pos (chkN0.2 ⟨k1, k2, hg, h1, hs, hw⟩) (ev_bind0 (a := note_word.ws) rfl (Ev.bind (rshow_ev a1 a2 l) ?_))
  rw [shv_yes hg, rd_word a0 (by omega) (by omega)]
  have hz := word_size a0
  have hsl := show_len hg
  have hb : (ba (showL a1 a2 l)).size ≤ 100 := by rw [ba_size]; exact hsl
  refine ev_pos (by omega) (ev_pos (show a0 < 8 by omega) (ev_pos (by omega) (ev_pos (show (wordB a0).size + 1 + (ba (showL a1 a2 l)).size ≤ 9223372036854775807 by omega) ?_)))
  by_cases g1 : a0 = 1
  · rw [if_pos g1] at hs
    have hn := nameB_size hs
    rw [textN1 g1]
    refine ev_pos g1 (ev_pos (show (wordB a0).size + 1 + (ba (showL a1 a2 l)).size + 1 ≤ 9223372036854775807 by omega) (ev_pos (show (wordB a0).size + 1 + (ba (showL a1 a2 l)).size + 1 + s.size ≤ 9223372036854775807 by omega) (ev_neg (by omega) (Ev.some ?_))))
    rw [ByteArray.append_assoc (c := s)]; rfl
  refine ev_neg g1 ?_
  by_cases g6 : a0 = 6
  · rw [if_pos g6] at hw
    have hi := itoa_len a5 (by omega) (by omega)
    rw [textN6 g6]
    refine ev_pos g6 (ev_pos (show (wordB a0).size + 1 + (ba (showL a1 a2 l)).size + 1 ≤ 9223372036854775807 by omega) (Ev.bind (digit_ev a5 (by omega) (by omega)) (ev_pos (show (wordB a0).size + 1 + (ba (showL a1 a2 l)).size + 1 + (ba (Lib.itoa a5)).size ≤ 9223372036854775807 by have := ba_size (Lib.itoa a5); omega) (Ev.some ?_))))
    rw [ByteArray.append_assoc (c := ba (Lib.itoa a5))]; rfl
  · rw [textN0 g1 g6]
    exact ev_neg g6 (Ev.some rfl)
end Go.Proofs.YtlaeihdldofkcaaDoor.ND
namespace Go.Proofs.YtlaeihdldofkcaaDoor.Pure
open Go.RowKit Go.Proofs.YtlaeihdldofkcaaDoorW.PrintWords Go.Proofs.YtlaeihdldofkcaaDoor.B Go.Proofs.YtlaeihdldofkcaaDoor.PN Go.Proofs.YtlaeihdldofkcaaDoor.ND Go.Proofs.YtlaeihdldofkcaaDoor.NG
set_option linter.unusedSimpArgs false
set_option linter.unusedVariables false
theorem NoteChecks (a0 a1 a2 : Int) (l : List S50) (s : ByteArray) (a5 : Int) : ∃ k, ententelaw13_NoteChecks.f k a0 a1 a2 l s a5 = some true := by
  have key : Ev (fun k => ententelaw13_NoteChecks.f k a0 a1 a2 l s a5) true := by
    unfold ententelaw13_NoteChecks.f
    refine ev_bind0 (few_eq a0 a1 a2 l s a5) ?_
    by_cases hf : l.length ≤ 200 ∧ s.size ≤ 10000
    case neg => exact ev_neg (by simpa using hf) (Ev.bind awake_ev (Ev.some rfl))
    have hl : l.length ≤ 9223372036854775807 := by omega
    refine ev_pos (decide_eq_true hf) (Ev.bind (ends_ev a0 a1 a2 l s a5 hl) (Ev.bind (rends_ev a0 a1 a2 l s a5) ?_))
    refine Ev.bind (nshow_ev a0 a1 a2 l s a5 hl) (Ev.bind (nrshow_ev a0 a1 a2 l s a5) ?_)
    refine Ev.bind (check_ev a0 a1 a2 l s a5 hl) (Ev.bind (rchk_ev a0 a1 a2 l s a5) ?_)
    exact ev_pos rfl (ev_pos rfl (ev_pos rfl (ev_pos rfl (ev_pos rfl (Ev.bind awake_ev (Ev.some rfl))))))
  obtain ⟨k, hk⟩ := key
  exact ⟨k, hk k (Nat.le_refl _)⟩
end Go.Proofs.YtlaeihdldofkcaaDoor.Pure
namespace Go.Proofs.YtlaeihdldofkcaaDoor.noteChecks
open Go.ChangeShapes Go.WideShapes Go.ChangeAt Go.RowKit
open Go.ChangeMaps (open_string shut_string)
set_option linter.unusedVariables false
theorem own : ownKnob Tryd.prog.godebug = none := by kernel_rfl
set_option maxRecDepth 100000 in
theorem lifted (os : Os) (started : os.Started) (H : Type) (enc : TypeId × Value → H) :
    ReturnsInHanded {} Tryd.checked os 3 .any (fun w args => (Rows.noteChecksSpec.pre enc Tryd.prog Tryd.f3 [] false w args ∧ laidMetH Tryd.prog Rows.noteChecksRow.laid w) ∧ sizedMet enc Tryd.prog Tryd.f3 (OpenSpec.ofChange Rows.noteChecksSpec) false w args) (Rows.noteChecksSpec.post enc Tryd.prog Tryd.f3 false true false false) := by
  refine IR.wrap (C := Tryd.checked) (X := fun w _ => laidMetH Tryd.prog Rows.noteChecksRow.laid w) (fun _ _ _ hh h => h.of_heap hh) own started (by kernel_rfl) Tryd.func3
    (ChangeSpec.witness_shaped (enc := enc) (C := Tryd.checked) (os := os) (X := fun w _ => laidMetH Tryd.prog Rows.noteChecksRow.laid w) false (World.laidAll Tryd.prog os Rows.noteChecksRow.laid) #[.agg #[.int .i64 0, .int .i64 0, .int .i64 0, .slice none 0 0, .string ByteArray.empty, .int .i64 0]] 8 (World.laidAll_os _ _ _)
      (World.shaped_of_ZipB (by kernel_rfl) (by kernel_rfl)) (by kernel_rfl) (by kernel_rfl) (by kernel_rfl)
      (by rw [MakeChecks.laidMetH_plain _ _ _ (by kernel_rfl)]; exact laidMet_laidAll _ (by kernel_rfl) (by kernel_rfl))) ?_
  intro W base args ds gs before hval0 hW hsz0 hL hsh
  have hsz : (DataW.weightsEach Tryd.prog (Tryd.f3.params.toList ++ Rows.noteChecksSpec.plain.varTypes Tryd.prog) (ds ++ gs)).all (· ≤ reachBytes) = true := hsz0
  have hval : ∀ (j : Nat) t v, Tryd.f3.params[j]? = some t → args[j]? = some v → Value.okWide Tryd.prog W .any base t v := hval0
  have hW' := hW
  obtain ⟨p, q, hA0, hV, rfl, hfz, hnd⟩ := hW
  have hA : DataW.TrodAll enc Tryd.prog W 0 (fun _ => true) true Tryd.f3.params.toList args.toList ds p := hA0
  rw [Tryd.params3] at hA hval hsz
  obtain ⟨v0, vs0, d0, ds0, p0, q0, hargs0, rfl, rfl, h0, r0⟩ := trodAll_cons hA
  obtain ⟨rfl, rfl, rfl⟩ := trodAll_nil r0
  obtain rfl : args = #[v0] := by cases args; simp_all
  obtain ⟨rfl, rfl⟩ := trodVars_none hV
  have hv0 := hval 0 26 v0 rfl rfl
  have k0 := h0
  obtain ⟨a0, b0, e0, A0, c0, l0, s0, g0, rfl, hc0, hC0⟩ := IR.note_open hv0 h0
  clear hA0 hval0 hsz0 hsz
  have hWH := IR.wh hsh hL
  obtain ⟨k, hk⟩ := Pure.NoteChecks a0 b0 e0 l0 s0 g0
  refine (PN.ententelaw13_NoteChecks.calls k a0 b0 e0 A0 c0 l0 s0 g0 true W hC0 hc0 hWH hk).mono fun e W' ⟨he, bel⟩ => ?_
  subst he
  have B0_ := Below.trod IR.laidOut (t := 26) (by kernel_rfl) (of_decide_eq_true (by kernel_rfl)) k0 bel (by obtain ⟨_, hf⟩ := k0; exact fun x hx => DataW.trod_lt _ _ _ _ hf x hx)
  exact ⟨_, rfl, _, _, _, [], _, [], hW', trodAll_mk1 (shut_bool Tryd.underlying4 _), (trodAll_cons_mk B0_ trodAll_mk0), rfl, bel.frame _, fun h => by cases h⟩
theorem over : Rows.noteChecksRow.holds Tryd.pinned (OpenSpec.ofChange Rows.noteChecksSpec) :=
  OpenClaim.holds_of_wide 3 Tryd.f3 rfl rfl rfl rfl rfl rfl rfl ⟨rfl, rfl, rfl, rfl, rfl⟩ rfl rfl rfl rfl rfl (by kernel_rfl) Tryd.func3 (by kernel_rfl)
    (of_decide_eq_true (by kernel_rfl)) (by unfold Func.isWrapper; first | (rw [if_pos (by decide +kernel)]; kernel_rfl) | (rw [if_neg (by decide +kernel)]; exact ⟨rfl, rfl⟩))
    (fun os started H enc _ => lifted os started H enc)
theorem proved : Rows.NoteChecksCardSaid :=
  Claim7.holds_tied_plain_at .later [] [.data, .data, .data, .data, .sentinel, .sentinel, .pinned] true (true, "9aa4bb9e383809161a320485365f4f36936a56c63198180c4c6354d1d696b7a3") true over (fun _ h => by cases h) (by kernel_rfl) (fun _ h => by cases h) noteChecks_row_tie rfl ⟨rfl, rfl⟩ (by kernel_rfl) rfl
    (fun f fn hf hfn => by
      obtain rfl : f = 3 := Option.some.inj ((show Tryd.prog.funcNamed "entente/ententelaw13.NoteChecks" = some 3 by kernel_rfl).symm.trans hf) |>.symm
      obtain rfl : fn = Tryd.f3 := (Option.some.inj (Tryd.func3.symm.trans hfn)).symm
      exact ⟨by kernel_rfl, fun j t ht => by
        rw [Tryd.params3] at ht
        have hm := Array.mem_of_getElem? ht
        have hall : (Tryd.f3.params.toList.all fun u => !Tryd.prog.wantsStandIn u) = true := by kernel_rfl
        rw [Tryd.params3] at hall
        exact (show Tryd.prog.wantsStandIn t = false by simpa using List.all_eq_true.1 hall t (by simpa using hm))⟩)
    (by kernel_rfl)
#print axioms proved
end Go.Proofs.YtlaeihdldofkcaaDoor.noteChecks
namespace Go.Proofs.YtlaeihdldofkcaaDoor
/-- The row, under a short name, for the claim. -/
theorem noteChecks_holds : Rows.NoteChecksCardSaid := noteChecks.proved
end Go.Proofs.YtlaeihdldofkcaaDoor

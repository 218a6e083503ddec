/- NoteEncodes: for every input the law returns true, and each argument reads behind the call as it read before; the variables that start-up code lays hold what the card ties. No conditions beyond those typed. -/
import Derived.Test.YtlaeihdldofkcaaGreatDoorNtG
import Derived.Test.YtlaeihdldofkcaaGreatDoorNtX
import Derived.Test.YtlaeihdldofkcaaGreatDoorNtFw
import Derived.Test.YtlaeihdldofkcaaGreatDoorPMx12
import Derived.Test.YtlaeihdldofkcaaGreatDoorRows
import Derived.Test.YtlaeihdldofkcaaGreatDoorNtRow
import Derived.Carry
import Derived.WalkKit
import Derived.ProofKit
import Derived.OpenShut
import Derived.ShutString
import Derived.ChangeOld
import Derived.Below
import Derived.SizedLaws
import Derived.Test.YtlaeihdldofkcaaGreatDoorTie
import Derived.Test.YtlaeihdldofkcaaGreatDoorCards
import Derived.Lay
import Derived.LaidOnce
import Derived.SevenTiedAt
namespace Go.Proofs.YtlaeihdldofkcaaGreatDoor.Pure
open Go.RowKit Go.Proofs.YtlaeihdldofkcaaGreatDoorW.PrintWords Go.Proofs.YtlaeihdldofkcaaGreatDoor.B Go.Proofs.YtlaeihdldofkcaaGreatDoor.PN Go.Proofs.YtlaeihdldofkcaaGreatDoor.ND Go.Proofs.YtlaeihdldofkcaaGreatDoor.NE Go.Proofs.YtlaeihdldofkcaaGreatDoor.NG
set_option linter.unusedSimpArgs false
set_option linter.unusedVariables false
theorem NoteEncodes (f t e q ae ak a0 a1 a2:Int) (l:List S46) (n:ByteArray) (a5:Int):∃ k,ententelaw13_NoteEncodes.f k f t e q ae ak a0 a1 a2 l n a5=some true:=by
  have key:Ev (fun k=> ententelaw13_NoteEncodes.f k f t e q ae ak a0 a1 a2 l n a5) true:=by
    unfold ententelaw13_NoteEncodes.f
    refine ev_bind0 (few_eq a0 a1 a2 l n a5) ?_
    by_cases hf:l.length≤200∧n.size≤10000
    case neg=> exact ev_neg (by simpa using hf) (Ev.bind awake_ev (Ev.some rfl))
    have hl:l.length≤9223372036854775807:=by omega
    refine ev_pos (decide_eq_true hf) (Ev.bind (encode_ev ⟨f,t,e,q,ae,ak,a0,a1,a2,l,n,a5⟩ hl) (Ev.bind (rencode_ev ⟨f,t,e,q,ae,ak,a0,a1,a2,l,n,a5⟩) ?_))
    refine Ev.bind (frame_ev f t e q ae ak a0 a1 a2 l n a5 hl) (Ev.bind (rframe_ev f t e q ae ak a0 a1 a2 l n a5) ?_)
    exact ev_pos rfl (ev_pos rfl (ev_pos rfl (Ev.bind awake_ev (Ev.some rfl))))
  obtain⟨k,hk⟩:=key
  exact⟨k,hk k (Nat.le_refl _)⟩
end Go.Proofs.YtlaeihdldofkcaaGreatDoor.Pure
namespace Go.Proofs.YtlaeihdldofkcaaGreatDoor.noteEncodes
open Go.ChangeShapes Go.WideShapes Go.ChangeAt Go.RowKit
open Go.ChangeMaps (open_string shut_string)
set_option linter.unusedVariables false
theorem own:ownKnob Tryz.prog.godebug=none:=by kernel_rfl
set_option maxRecDepth 100000 in
theorem lifted (os:Os) (started:os.Started) (H:Type) (enc:TypeId×Value→H) :
    ReturnsInHanded {} Tryz.checked os 3 .any (fun w args=> (Rows.noteEncodesSpec.pre enc Tryz.prog Tryz.f3 [] false w args∧laidMetH Tryz.prog Rows.noteEncodesRow.laid w)∧sizedMet enc Tryz.prog Tryz.f3 (OpenSpec.ofChange Rows.noteEncodesSpec) false w args) (Rows.noteEncodesSpec.post enc Tryz.prog Tryz.f3 false true false false):=by
  refine IR.wrap (C:=Tryz.checked) (X:=fun w _=> laidMetH Tryz.prog Rows.noteEncodesRow.laid w) (fun _ _ _ hh h=> h.of_heap hh) own started (by kernel_rfl) Tryz.func3
    (ChangeSpec.witness_shaped (enc:=enc) (C:=Tryz.checked) (os:=os) (X:=fun w _=> laidMetH Tryz.prog Rows.noteEncodesRow.laid w) false (World.laidAll Tryz.prog os Rows.noteEncodesRow.laid) #[.agg #[.int .i64 0,.int .i64 0,.int .i64 0,.int .i64 0,.int .i64 0,.int .i64 0,.int .i64 0,.int .i64 0,.int .i64 0,.slice none 0 0,.string ByteArray.empty,.int .i64 0]] 8 (World.laidAll_os _ _ _)
      (World.shaped_of_ZipB (by kernel_rfl) (by kernel_rfl)) (by kernel_rfl) (by kernel_rfl) (by kernel_rfl)
      (by rw[MakeChecks.laidMetH_plain _ _ _ (by kernel_rfl)];exact laidMet_laidAll _ (by kernel_rfl) (by kernel_rfl))) ?_
  intro W base args ds gs before hval0 hW hsz0 hL hsh
  have hsz:(DataW.weightsEach Tryz.prog (Tryz.f3.params.toList++Rows.noteEncodesSpec.plain.varTypes Tryz.prog) (ds++gs)).all (·≤reachBytes)=true:=hsz0
  have hval:∀ (j:Nat) t v,Tryz.f3.params[j]?=some t→args[j]?=some v→Value.okWide Tryz.prog W .any base t v:=hval0
  have hW':=hW
  obtain⟨p,q,hA0,hV,rfl,hfz,hnd⟩:=hW
  have hA:DataW.TrodAll enc Tryz.prog W 0 (fun _=> true) true Tryz.f3.params.toList args.toList ds p:=hA0
  rw[Tryz.params3]at hA hval hsz
  obtain⟨v0,vs0,d0,ds0,p0,q0,hargs0,rfl,rfl,h0,r0⟩:=trodAll_cons hA
  obtain⟨rfl,rfl,rfl⟩:=trodAll_nil r0
  obtain rfl:args=#[v0]:=by cases args;simp_all
  obtain⟨rfl,rfl⟩:=trodVars_none hV
  have hv0:=hval 0 28 v0 rfl rfl
  have k0:=h0
  obtain⟨fa0,fb0,fc0,fd0,fe0,ff0,a0,b0,e0,A0,c0,l0,s0,g0,rfl,hc0,hC0⟩:=IR.frame_open hv0 h0
  clear hA0 hval0 hsz0 hsz
  have hWH:=IR.wh hsh hL
  obtain⟨k,hk⟩:=Pure.NoteEncodes fa0 fb0 fc0 fd0 fe0 ff0 a0 b0 e0 l0 s0 g0
  refine(PN.ententelaw13_NoteEncodes.calls k fa0 fb0 fc0 fd0 fe0 ff0 a0 b0 e0 A0 c0 l0 s0 g0 true W hC0 hc0 hWH hk).mono fun e W' ⟨he,bel⟩=> ?_
  subst he
  have B0_:=Below.trod IR.laidOut (t:=28) (by kernel_rfl) (of_decide_eq_true (by kernel_rfl)) k0 bel (by obtain⟨_,hf⟩:=k0;exact fun x hx=> DataW.trod_lt _ _ _ _ hf x hx)
  exact⟨_,rfl,_,_,_,[],_,[],hW',trodAll_mk1 (shut_bool Tryz.underlying4 _),(trodAll_cons_mk B0_ trodAll_mk0),rfl,bel.frame _,fun h=> by cases h⟩
theorem over:Rows.noteEncodesRow.holds Tryz.pinned (OpenSpec.ofChange Rows.noteEncodesSpec):=
  OpenClaim.holds_of_wide 3 Tryz.f3 rfl rfl rfl rfl rfl rfl rfl ⟨rfl,rfl,rfl,rfl,rfl⟩ rfl rfl rfl rfl rfl (by kernel_rfl) Tryz.func3 (by kernel_rfl)
    (of_decide_eq_true (by kernel_rfl)) (by unfold Func.isWrapper;first|(rw[if_pos (by decide+kernel)];kernel_rfl)|(rw[if_neg (by decide+kernel)];exact⟨rfl,rfl⟩))
    (fun os started H enc _=> lifted os started H enc)
theorem proved:Rows.NoteEncodesCardSaid:=
  Claim7.holds_tied_plain_at .later [] [.data, .data, .data, .data, .sentinel, .sentinel, .pinned] true (true, "4265df6b63e5f7b1ae0e29c698699d51f6ae9f34ffec89417b212600a8ae8e63") true over (fun _ h => by cases h) (by kernel_rfl) (fun _ h => by cases h) noteEncodes_row_tie rfl ⟨rfl, rfl⟩ (by kernel_rfl) rfl
    (fun f fn hf hfn=> by
      obtain rfl : f = 3 := Option.some.inj ((show Tryz.prog.funcNamed "entente/ententelaw13.NoteEncodes" = some 3 by kernel_rfl).symm.trans hf) |>.symm
      obtain rfl:fn=Tryz.f3:=(Option.some.inj (Tryz.func3.symm.trans hfn)).symm
      exact⟨by kernel_rfl,fun j t ht=> by
        rw[Tryz.params3]at ht
        have hm:=Array.mem_of_getElem? ht
        have hall:(Tryz.f3.params.toList.all fun u=> !Tryz.prog.wantsStandIn u)=true:=by kernel_rfl
        rw[Tryz.params3]at hall
        exact(show Tryz.prog.wantsStandIn t=false by simpa using List.all_eq_true.1 hall t (by simpa using hm))⟩)
    (by kernel_rfl)
#print axioms proved
end Go.Proofs.YtlaeihdldofkcaaGreatDoor.noteEncodes
namespace Go.Proofs.YtlaeihdldofkcaaGreatDoor
/-- The row, under a short name, for the claim. -/
theorem noteEncodes_holds:Rows.NoteEncodesCardSaid:=noteEncodes.proved
end Go.Proofs.YtlaeihdldofkcaaGreatDoor

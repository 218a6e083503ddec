/- The document's frames: which may be, how they are laid. -/
import Derived.Test.YtlaeihdldofkcaaGreatDoorNtE
import Derived.Test.YtlaeihdldofkcaaGreatDoorNtY
import Derived.Test.YtlaeihdldofkcaaGreatDoorNtRh
import Derived.Test.YtlaeihdldofkcaaGreatDoorNtSr
import Derived.Test.YtlaeihdldofkcaaGreatDoorPMx7
import Derived.Test.YtlaeihdldofkcaaGreatDoorPMx8
namespace Go.Proofs.YtlaeihdldofkcaaGreatDoor.NE
open Go.RowKit Go.Proofs.YtlaeihdldofkcaaGreatDoorW.PrintWords Go.Proofs.YtlaeihdldofkcaaGreatDoor.B Go.Proofs.YtlaeihdldofkcaaGreatDoor.PN Go.Proofs.YtlaeihdldofkcaaGreatDoor.IA Go.Proofs.YtlaeihdldofkcaaGreatDoor.IB Go.Proofs.YtlaeihdldofkcaaGreatDoor.IC Go.Proofs.YtlaeihdldofkcaaGreatDoor.ND Go.Proofs.YtlaeihdldofkcaaGreatDoor.NN
open Go.Proofs.YtlaeihdldofkcaaGreatDoor.NK (numL numL_le rnumber_ev textL rtext_ev sealL sealv rseal_ev textL_len)
open Go.Proofs.YtlaeihdldofkcaaGreatDoor.IS (ba ba_data ba_size ba_app shv_yes showL rshow_ev)
open Go.Proofs.YtlaeihdldofkcaaGreatDoor.IP (show_len)
set_option linter.unusedSimpArgs false
set_option linter.unusedVariables false
theorem rframe_ev (f t e q ae ak a0 a1 a2:Int) (l:List S46) (s:ByteArray) (a5:Int):Ev (fun k=> ententeref13_Frame.f k f t e q ae ak a0 a1 a2 l s a5) (frv f t e q ae ak a0 a1 a2 l s a5):=by
  have no0:¬ okH f t e q ae ak→Ev (fun k=> ententeref13_Frame.j0 k true f t e q ae ak a0 a1 a2 l s a5) (frv f t e q ae ak a0 a1 a2 l s a5):=by
    intro h
    rw[show frv f t e q ae ak a0 a1 a2 l s a5=130 from if_neg (fun h'=> h h'.1)]
    exact Ev.step (fun k=> by rw[ententeref13_Frame.j0]) (ev_pos rfl (Ev.some rfl))
  have no1:¬ okH f t e q ae ak→Ev (fun k=> ententeref13_Frame.j1 k true f t e q ae ak a0 a1 a2 l s a5) (frv f t e q ae ak a0 a1 a2 l s a5):=by
    intro h
    rw[show frv f t e q ae ak a0 a1 a2 l s a5=130 from if_neg (fun h'=> h h'.1)]
    exact Ev.step (fun k=> by rw[ententeref13_Frame.j1]) (ev_pos rfl (Ev.some rfl))
  have y2:Ev (fun k=> ententeref13_Frame.j2 k true) 130:=Ev.step (fun k=> by rw[ententeref13_Frame.j2]) (ev_pos rfl (Ev.some rfl))
  unfold ententeref13_Frame.f
  refine ev_ite (fun h=> no0 (by unfold okH;omega)) (fun h0=> ev_ite (fun h=> no0 (by unfold okH;omega)) (fun h1=> ev_ite (fun h=> no0 (by unfold okH;omega)) (fun h2=> ev_ite (fun h=> no0 (by unfold okH;omega)) (fun h3=> ev_ite (fun h=> no0 (by unfold okH;omega)) (fun h4=> ev_ite (fun h=> no0 (by unfold okH;omega)) (fun h5=> ?_))))))
  by_cases h6:e> 1000000000
  · rw[decide_eq_true h6];exact no0 (by unfold okH;omega)
  rw[decide_eq_false h6]
  refine Ev.step (fun k=> by rw[ententeref13_Frame.j0]) (ev_neg (by decide) ?_)
  refine ev_ite (fun h=> no1 (by unfold okH;omega)) (fun g0=> ev_ite (fun h=> no1 (by unfold okH;omega)) (fun g1=> ev_ite (fun h=> no1 (by unfold okH;omega)) (fun g2=> ev_ite (fun h=> no1 (by unfold okH;omega)) (fun g3=> ev_ite (fun h=> no1 (by unfold okH;omega)) (fun g4=> ?_)))))
  by_cases g5:ak> 1000000000
  · rw[decide_eq_true g5];exact no1 (by unfold okH;omega)
  rw[decide_eq_false g5]
  have hH:okH f t e q ae ak:=by unfold okH;omega
  refine Ev.step (fun k=> by rw[ententeref13_Frame.j1]) (ev_neg (by decide) ?_)
  by_cases h7:q=0
  · have em (h:¬ emptyN a0 a1 a2 l s a5):frv f t e q ae ak a0 a1 a2 l s a5=130:=if_neg (fun h'=> by have:=h'.2;rw[if_pos h7]at this;exact h this)
    refine ev_pos h7 (ev_ite (fun k0=> ev_ite (fun k4=> ev_ite (fun k5=> ev_ite (fun k1=> ev_ite (fun k2=> ?_) (fun k=> ?_)) (fun k=> ?_)) (fun k=> ?_)) (fun k=> ?_)) (fun k=> ?_))
    · refine Ev.step (fun k=> by rw[ententeref13_Frame.j2]) ?_
      refine ev_ite (fun k=> ?_) (fun k=> ?_)
      · rw[em (fun h=> by have:=h.2.2.2.1;rw[bne_iff_ne]at k;omega)];exact Ev.some rfl
      · rw[show frv f t e q ae ak a0 a1 a2 l s a5=0 from if_pos ⟨hH,by rw[if_pos h7];exact⟨k0,k1,k2,by rw[bne_iff_ne]at k;omega,(empty_iff s).1 k4,k5⟩⟩];exact Ev.some rfl
    · rw[em (fun h=> k h.2.2.1)];exact y2
    · rw[em (fun h=> k h.2.1)];exact y2
    · rw[em (fun h=> k h.2.2.2.2.2)];exact y2
    · rw[em (fun h=> k ((empty_iff s).2 h.2.2.2.2.1))];exact y2
    · rw[em (fun h=> k h.1)];exact y2
  · refine ev_neg h7 (Ev.bind (rends_ev a0 a1 a2 l s a5) ?_)
    by_cases h8:endsv a0 a1 a2 l s a5=(f,t)
    · rw[show frv f t e q ae ak a0 a1 a2 l s a5=0 from if_pos ⟨hH,by rw[if_neg h7];exact h8⟩,h8]
      exact ev_pos rfl (ev_pos rfl (Ev.some rfl))
    · rw[show frv f t e q ae ak a0 a1 a2 l s a5=130 from if_neg (fun h=> by have:=h.2;rw[if_neg h7]at this;exact h8 this)]
      refine ev_ite (fun g1=> ev_ite (fun g2=> absurd (Prod.ext g1 g2) h8) (fun g2=> Ev.some rfl)) (fun g1=> Ev.some rfl)
theorem rput (n:Int) (h0:0≤n) (h:n≤1000000000):Ev (fun k=> ententeref13_number.f k n) (ba (numL n.toNat)):=by
  unfold ententeref13_number.f
  rw[u64_wrap n h0 h]
  exact Ev.bind (rnumber_ev _ n.toNat (Nat.le_refl _) (by omega)) (Ev.some rfl)
theorem rseal1 {x:Fr} (h:ok x) (s:ByteArray) (hs:s=ba (bodyL x)):Ev (fun k=> (ententeref02_Seal.f k 1 s).bind fun b=> some (b.1,b.2)) (encv x):=by
  have hb:=body_len h
  have hz:=ba_size (bodyL x)
  have:=rseal_ev 1 (by decide) (ba (bodyL x)) (by omega)
  rw[show sealv 1 (ba (bodyL x))=encv x from(if_neg (by omega)).trans (enc_yes h).symm]at this
  rw[hs]
  exact Ev.bind this (Ev.some rfl)
theorem rencode_ev (x:Fr):Ev (fun k=> ententeref13_Encode.f k x.f x.t x.e x.q x.ae x.ak x.a0 x.a1 x.a2 x.l x.s x.a5) (encv x):=by
  unfold ententeref13_Encode.f
  refine Ev.bind (rframe_ev x.f x.t x.e x.q x.ae x.ak x.a0 x.a1 x.a2 x.l x.s x.a5) ?_
  by_cases h:ok x
  case neg=>
    rw[enc_no h,show frv x.f x.t x.e x.q x.ae x.ak x.a0 x.a1 x.a2 x.l x.s x.a5=130 from if_neg h]
    exact ev_neg (by decide) (Ev.some rfl)
  obtain⟨h1,h2,h3,h4,h5,h6⟩:=ok_num h
  have s1:=numL_le' _ h1.1 h1.2
  have s2:=numL_le' _ h2.1 h2.2
  have s3:=numL_le' _ h3.1 h3.2
  have s4:=numL_le' _ h4.1 h4.2
  have s5:=numL_le' _ h5.1 h5.2
  have s6:=numL_le' _ h6.1 h6.2
  refine ev_pos (frv0.2 h) (Ev.bind (rput _ h1.1 h1.2) (Ev.bind (rput _ h2.1 h2.2) ?_))
  simp only[ba_size,ba_app]
  refine ev_pos (by omega) (Ev.bind (rput _ h3.1 h3.2) ?_)
  simp only[ba_size,ba_app]
  refine ev_pos (by omega) (Ev.bind (rput _ h4.1 h4.2) ?_)
  simp only[ba_size,ba_app]
  refine ev_pos (by omega) (Ev.bind (rput _ h5.1 h5.2) ?_)
  simp only[ba_size,ba_app]
  refine ev_pos (by omega) (Ev.bind (rput _ h6.1 h6.2) ?_)
  simp only[ba_size,ba_app]
  refine ev_pos (by omega) ?_
  by_cases hq:x.q=0
  · refine ev_pos hq (rseal1 h _ ?_)
    congr 1
    unfold bodyL
    rw[if_pos hq]
    simp
  · have hn:=ok_N h hq
    have hw:=okN_why hn
    have hz:=okN_size hn
    have k1:=hn.1
    have k2:=hn.2.1
    have hs:=show_len hn.2.2.1
    have hbs:=ba_size (showL x.a1 x.a2 x.l)
    have f1:=numL_le' x.a0 (by omega) (by omega)
    have f2:=numL_le' x.a5 (by omega) (by omega)
    obtain⟨t1,t2⟩:=textL_len (ba (showL x.a1 x.a2 x.l)) (by omega)
    obtain⟨t3,t4⟩:=textL_len x.s (by omega)
    have hsh:=rshow_ev x.a1 x.a2 x.l
    rw[shv_yes hn.2.2.1]at hsh
    refine ev_neg hq (Ev.bind hsh (Ev.bind (rput _ (by omega) (by omega)) ?_))
    simp only[ba_size,ba_app]
    refine ev_pos (by omega) (Ev.bind (rtext_ev (ba (showL x.a1 x.a2 x.l)) (by omega)) ?_)
    simp only[ba_size,ba_app]
    refine ev_pos (by omega) (Ev.bind (rtext_ev x.s (by omega)) ?_)
    simp only[ba_size,ba_app]
    refine ev_pos (by omega) (Ev.bind (rput _ (by omega) (by omega)) ?_)
    simp only[ba_size,ba_app]
    refine ev_pos (by omega) (rseal1 h _ ?_)
    congr 1
    unfold bodyL
    rw[if_neg hq]
    unfold noteL
    simp
end Go.Proofs.YtlaeihdldofkcaaGreatDoor.NE

/- The plain statement: a frame is read as it was laid; what is read is laid as it stood. -/
import Derived.Test.YtlaeihdldofkcaaDoorNtG
import Derived.Test.YtlaeihdldofkcaaDoorNtF
import Derived.Test.YtlaeihdldofkcaaDoorNtFw
import Derived.Test.YtlaeihdldofkcaaDoorNtSm
import Derived.Test.YtlaeihdldofkcaaDoorPMx12
namespace Go.Proofs.YtlaeihdldofkcaaDoor.Pure
open Go.RowKit Go.Proofs.YtlaeihdldofkcaaDoorW.PrintWords Go.Proofs.YtlaeihdldofkcaaDoor.B Go.Proofs.YtlaeihdldofkcaaDoor.PN Go.Proofs.YtlaeihdldofkcaaDoor.ND Go.Proofs.YtlaeihdldofkcaaDoor.NE Go.Proofs.YtlaeihdldofkcaaDoor.NG
set_option linter.unusedSimpArgs false
set_option linter.unusedVariables false
theorem back_of (s : ByteArray) (hs : s.size ≤ 1000000) : Ev (fun k => ententelaw13_NoteBack.j1 k s) true := by
  refine Ev.step (fun k => by rw [ententelaw13_NoteBack.j1]) ?_
  obtain ⟨d, hd, h⟩ := decode_ev s hs
  refine Ev.bind hd ?_
  rcases h with ⟨x, ⟨hx, rfl⟩, rfl⟩ | ⟨_, hw, rfl⟩
  · have he := encode_ev x (by
      by_cases hq : x.q = 0
      · have := ok_0 hx hq; unfold emptyN at this; omega
      · have := Go.Proofs.YtlaeihdldofkcaaDoor.IC.good_len (ok_N hx hq).2.2.1; omega)
    rw [enc_yes hx] at he
    exact ev_pos rfl (Ev.bind he (ev_pos rfl (ev_pos rfl (Ev.bind awake_ev (Ev.some rfl)))))
  · exact ev_neg hw (Ev.bind (frame_same 0 0 0 0 0 0 0 0 0 [] ⟨#[]⟩ 0 (by decide)) (ev_pos rfl (Ev.bind awake_ev (Ev.some rfl))))
theorem NoteBack (f t e q ae ak a0 a1 a2 : Int) (l : List S50) (n : ByteArray) (a5 : Int) (s : ByteArray) : ∃ k, ententelaw13_NoteBack.f k f t e q ae ak a0 a1 a2 l n a5 s = some true := by
  have key : Ev (fun k => ententelaw13_NoteBack.f k f t e q ae ak a0 a1 a2 l n a5 s) true := by
    have aw : Ev (fun k => ententelaw13_NoteBack.j0 k s true f t e q ae ak a0 a1 a2 l n a5) true :=
      Ev.step (fun k => by rw [ententelaw13_NoteBack.j0]) (ev_pos rfl (Ev.bind awake_ev (Ev.some rfl)))
    unfold ententelaw13_NoteBack.f
    refine ev_bind0 (few_eq a0 a1 a2 l n a5) ?_
    by_cases hf : l.length ≤ 200 ∧ n.size ≤ 10000
    case neg => exact ev_neg (by simpa using hf) aw
    refine ev_pos (decide_eq_true hf) ?_
    by_cases hs : (s.size : Int) > 40000
    · rw [decide_eq_true hs]; exact aw
    rw [decide_eq_false hs]
    refine Ev.step (fun k => by rw [ententelaw13_NoteBack.j0]) (ev_neg (by decide) ?_)
    have he := encode_ev ⟨f, t, e, q, ae, ak, a0, a1, a2, l, n, a5⟩ (by show l.length ≤ _; omega)
    refine Ev.bind he ?_
    have hj := back_of s (by omega)
    by_cases hx : ok ⟨f, t, e, q, ae, ak, a0, a1, a2, l, n, a5⟩
    case neg =>
      rw [enc_no hx]
      exact ev_neg (by decide) hj
    rw [enc_yes hx]
    have hw : (wire ⟨f, t, e, q, ae, ak, a0, a1, a2, l, n, a5⟩).size ≤ 1000000 := by
      obtain ⟨hl, hl2⟩ := Go.Proofs.YtlaeihdldofkcaaDoor.NK.textL_len (Go.Proofs.YtlaeihdldofkcaaDoor.IS.ba (bodyL ⟨f, t, e, q, ae, ak, a0, a1, a2, l, n, a5⟩)) (by rw [Go.Proofs.YtlaeihdldofkcaaDoor.IS.ba_size]; have := body_len hx; omega)
      have hz := Go.Proofs.YtlaeihdldofkcaaDoor.IS.ba_size (bodyL ⟨f, t, e, q, ae, ak, a0, a1, a2, l, n, a5⟩)
      have hb := body_len hx
      unfold wire
      rw [Go.Proofs.YtlaeihdldofkcaaDoor.IS.ba_size]
      unfold Go.Proofs.YtlaeihdldofkcaaDoor.NK.sealL Go.Proofs.YtlaeihdldofkcaaDoor.NK.headL
      simp only [List.length_append, List.length_cons, Go.Proofs.YtlaeihdldofkcaaDoor.NK.eight_len]
      omega
    obtain ⟨d, hd, h⟩ := decode_ev _ hw
    refine ev_pos rfl (Ev.bind hd ?_)
    rcases h with ⟨y, ⟨hy, hyw⟩, rfl⟩ | ⟨hno, _, _⟩
    case inr => exact absurd ⟨_, hx, rfl⟩ hno
    obtain rfl := wire_inj hx hy hyw
    exact ev_pos rfl (Ev.bind (frame_same f t e q ae ak a0 a1 a2 l n a5 (by omega)) (ev_pos rfl (Ev.bind (frame_ev f t e q ae ak a0 a1 a2 l n a5 (by omega)) (ev_pos (frv0.2 hx) hj))))
  obtain ⟨k, hk⟩ := key
  exact ⟨k, hk k (Nat.le_refl _)⟩
end Go.Proofs.YtlaeihdldofkcaaDoor.Pure

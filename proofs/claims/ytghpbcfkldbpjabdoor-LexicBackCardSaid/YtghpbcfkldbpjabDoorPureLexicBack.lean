/- The plain statement: tokens are read as they were written, but for their places. -/
import Derived.Test.YtghpbcfkldbpjabDoorLexU
import Derived.Test.YtghpbcfkldbpjabDoorPLx14
namespace Go.Proofs.YtghpbcfkldbpjabDoor.Pure
open Go.RowKit Go.Proofs.YtghpbcfkldbpjabDoorW.PrintWords Go.Proofs.YtghpbcfkldbpjabDoor.B Go.Proofs.YtghpbcfkldbpjabDoor.PL Go.Proofs.YtghpbcfkldbpjabDoor.LA Go.Proofs.YtghpbcfkldbpjabDoor.LB Go.Proofs.YtghpbcfkldbpjabDoor.LC Go.Proofs.YtghpbcfkldbpjabDoor.LD Go.Proofs.YtghpbcfkldbpjabDoor.LE Go.Proofs.YtghpbcfkldbpjabDoor.LS Go.Proofs.YtghpbcfkldbpjabDoor.LT Go.Proofs.YtghpbcfkldbpjabDoor.LU
set_option linter.unusedSimpArgs false
set_option linter.unusedVariables false
theorem nil_toList : (⟨#[]⟩ : ByteArray).toList = [] := by rw [ByteArray.toList_eq]
theorem lexicBack_loop (l m : List S32) (hm : m.map kt = l.map kt) (hl : l.length ≤ 100000) : ∀ (d i : Nat), l.length - i = d → i ≤ l.length → Ev (fun k => ententelaw08_LexicBack.l0 k l m (i : Int)) true
  | 0, i, hd, h => by
    refine Ev.step (fun k => by rw [ententelaw08_LexicBack.l0]) (ev_neg (by omega) (Ev.bind awake_ev (Ev.some rfl)))
  | d + 1, i, hd, h => by
    have hlen : m.length = l.length := by have := congrArg List.length hm; rwa [List.length_map, List.length_map] at this
    have he : kt (m[i]'(by omega)) = kt (l[i]'(by omega)) := by
      have h1 : (m.map kt)[i]? = (l.map kt)[i]? := by rw [hm]
      rw [List.getElem?_map, List.getElem?_map, List.getElem?_eq_getElem (by omega : i < m.length), List.getElem?_eq_getElem (by omega : i < l.length)] at h1
      exact Option.some.inj h1
    have h0 := congrArg Prod.fst he
    have h1 := congrArg Prod.snd he
    refine Ev.step (fun k => by rw [ententelaw08_LexicBack.l0]) (ev_pos (by omega) (ev_pos (by omega) (ev_pos (by omega) ?_)))
    rw [rd_get l i (by omega), rd_get m i (by omega)]
    refine ev_pos h0 (ev_pos (congrArg ByteArray.toList h1) ?_)
    rw [wrap64_of (by omega) (by omega)]
    exact lexicBack_loop l m hm hl d (i + 1) (by omega) (by omega)
theorem LexicBack (l : List S32) : ∃ k, ententelaw08_LexicBack.f k l = some true := by
  have key : Ev (fun k => ententelaw08_LexicBack.f k l) true := by
    unfold ententelaw08_LexicBack.f
    refine ev_ite (fun h => Ev.bind awake_ev (Ev.some rfl)) (fun h => ?_)
    obtain ⟨c, _, ⟨h1, _⟩, h3⟩ := show_both l (by omega)
    refine Ev.bind h1 ?_
    unfold shw
    by_cases hc : c = 0
    · rw [if_pos hc]
      obtain ⟨out, e, rfl, e0, e1, hf, ht⟩ := h3 hc
      rw [List.dropLast_concat]
      obtain ⟨l', g1, g2⟩ := back_sc out hf ht
      have hke : kt e = (0, (⟨#[]⟩ : ByteArray)) := by
        unfold kt
        rw [e0]
        congr 1
        exact toList_inj.1 (by rw [e1, nil_toList])
      have hm : l'.map kt = (out ++ [e]).map kt := by rw [g2, List.map_append, List.map_cons, List.map_nil, hke]
      have hlen : l'.length = (out ++ [e]).length := by have := congrArg List.length hm; rwa [List.length_map, List.length_map] at this
      refine ev_pos rfl (ev_bind0 (scan_eq _) ?_)
      rw [g1]
      refine ev_pos rfl (Ev.step (fun k => by rw [ententelaw08_LexicBack.j0]) (ev_neg ?_ ?_))
      · rw [hlen]; simp
      · exact lexicBack_loop (out ++ [e]) l' hm (by omega) _ 0 rfl (Nat.zero_le _)
    · rw [if_neg hc]
      exact ev_neg hc (ev_pos nil_toList (Ev.bind awake_ev (Ev.some rfl)))
  obtain ⟨k, hk⟩ := key
  exact ⟨k, hk k (Nat.le_refl _)⟩
end Go.Proofs.YtghpbcfkldbpjabDoor.Pure

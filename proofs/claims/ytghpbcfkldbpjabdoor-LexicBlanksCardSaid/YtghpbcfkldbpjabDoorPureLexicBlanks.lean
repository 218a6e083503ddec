/- The plain statement: blanks and a remark ahead of a text move its tokens, and change nothing else. -/
import Derived.Test.YtghpbcfkldbpjabDoorLexD
import Derived.Test.YtghpbcfkldbpjabDoorPLx9
namespace Go.Proofs.YtghpbcfkldbpjabDoor.Pure
open Go.RowKit Go.Proofs.YtghpbcfkldbpjabDoorW.PrintWords Go.Proofs.YtghpbcfkldbpjabDoor.B Go.Proofs.YtghpbcfkldbpjabDoor.PL Go.Proofs.YtghpbcfkldbpjabDoor.LA Go.Proofs.YtghpbcfkldbpjabDoor.LB Go.Proofs.YtghpbcfkldbpjabDoor.LC Go.Proofs.YtghpbcfkldbpjabDoor.LD
def ahead : ByteArray := ⟨#[32, 35, 32, 97, 32, 114, 101, 109, 97, 114, 107, 32, 255, 32, 123, 10, 9]⟩
theorem bt_ahead (s : ByteArray) (i : Nat) (h : i < 17) : bt (ahead ++ s) (i : Int) = bt ahead (i : Int) := by
  have h1 : i < ahead.data.toList.length := h
  have h2 : i < (ahead ++ s).data.toList.length := by rw [data_append, List.length_append]; omega
  rw [bt_get _ _ h1, bt_get _ _ h2]
  congr 2
  simp only [data_append]
  rw [List.getElem_append_left h1]
theorem scn_ahead (s : ByteArray) (g : Nat) : lexic_Scan.scn (ahead ++ s) (g + 4) 0 [] = lexic_Scan.scn (ahead ++ s) g 17 [] := by
  have hz : (ahead ++ s).size = 17 + s.size := ByteArray.size_append
  have e0 : bt (ahead ++ s) ((0 : Nat) : Int) = 32 := bt_ahead s 0 (by omega)
  have e1 : bt (ahead ++ s) ((0 + 1 : Nat) : Int) = 35 := bt_ahead s 1 (by omega)
  have e15 : bt (ahead ++ s) ((15 : Nat) : Int) = 10 := bt_ahead s 15 (by omega)
  have e16 : bt (ahead ++ s) ((15 + 1 : Nat) : Int) = 9 := bt_ahead s 16 (by omega)
  have go : ∀ (n : Nat), n ≤ 14 → ov lexic_Scan.notNl (ahead ++ s) (15 - n) = 15 := by
    intro n
    induction n with
    | zero => intro _; exact ov_stop _ _ 15 (by omega) (by rw [e15]; decide)
    | succ n ih =>
      intro hn
      have hp : lexic_Scan.notNl (bt (ahead ++ s) ((15 - (n + 1) : Nat) : Int)) = true := by
        rw [bt_ahead s _ (by omega)]
        have : ∀ m : Fin 14, lexic_Scan.notNl (bt ahead ((15 - (m.val + 1) : Nat) : Int)) = true := by decide +kernel
        exact this ⟨n, by omega⟩
      rw [ov_go _ _ _ (by omega) hp, show 15 - (n + 1) + 1 = 15 - n by omega]
      exact ih (by omega)
  have e1' : lexic_Scan.ovr lexic_Scan.notNl (ahead ++ s) ((ahead ++ s).size - (0 + 1)) (0 + 1) = 15 := go 14 (by omega)
  rw [lexic_Scan.scn, if_pos (by omega), if_pos e0, lexic_Scan.scn, if_pos (by omega), if_neg (by rw [e1]; omega), if_neg (by rw [e1]; omega), if_neg (by rw [e1]; omega), if_pos e1, e1',
    lexic_Scan.scn, if_pos (by omega), if_neg (by rw [e15]; omega), if_neg (by rw [e15]; omega), if_pos e15, lexic_Scan.scn, if_pos (by omega), if_neg (by rw [e16]; omega), if_pos e16]
theorem at_range (s : ByteArray) (hs : s.size ≤ 2000) : ∀ t ∈ (lexic_Scan.scn s (s.size + 1) 0 []).2, 0 ≤ t.f2 ∧ t.f2 ≤ 2000 := by
  refine scn_ind s (fun i out => ∀ t ∈ out, 0 ≤ t.f2 ∧ t.f2 ≤ 2000) (fun q => ∀ t ∈ q.2, 0 ≤ t.f2 ∧ t.f2 ≤ 2000) (fun i out _ h _ => h) (fun i out _ h _ => h) ?_ ?_ (fun i out _ h => h) _ 0 [] (Nat.zero_le _) (by omega) (fun t ht => by cases ht)
  · intro i out j k h1 h2 h _ t ht
    rcases List.mem_append.1 ht with ht | ht
    · exact h t ht
    · obtain rfl := List.mem_singleton.1 ht
      show 0 ≤ (i : Int) ∧ (i : Int) ≤ 2000
      omega
  · intro out h t ht
    rcases List.mem_append.1 ht with ht | ht
    · exact h t ht
    · obtain rfl := List.mem_singleton.1 ht
      show 0 ≤ (s.size : Int) ∧ (s.size : Int) ≤ 2000
      omega
theorem rd_map (l : List S32) (n i : Nat) (h : i < l.length) : rd_T32 (l.map (sh n)) (i : Int) = sh n (rd_T32 l (i : Int)) := by
  unfold rd_T32
  rw [Int.toNat_natCast, List.getD_eq_getElem?_getD, List.getD_eq_getElem?_getD, List.getElem?_map, List.getElem?_eq_getElem h]
  rfl
theorem rd_mem (l : List S32) (i : Nat) (h : i < l.length) : rd_T32 l (i : Int) ∈ l := by
  unfold rd_T32
  rw [Int.toNat_natCast, List.getD_eq_getElem?_getD, List.getElem?_eq_getElem h]
  exact List.getElem_mem h
theorem blanks_loop (l : List S32) (hl : l.length ≤ 100000) (hr : ∀ t ∈ l, 0 ≤ t.f2 ∧ t.f2 ≤ 2000) : ∀ (d i : Nat), l.length - i = d → i ≤ l.length → Ev (fun k => ententelaw08_LexicBlanks.l0 k l (l.map (sh 17)) (i : Int)) true
  | 0, i, hd, h => Ev.step (fun k => by rw [ententelaw08_LexicBlanks.l0]) (ev_neg (by omega) (Ev.bind awake_ev (Ev.some rfl)))
  | d + 1, i, hd, h => by
    have hi := hr _ (rd_mem l i (by omega))
    refine Ev.step (fun k => by rw [ententelaw08_LexicBlanks.l0]) ?_
    rw [rd_map l 17 i (by omega), List.length_map]
    refine ev_pos (by omega) (ev_pos (by omega) (ev_pos (by omega) (ev_pos rfl (ev_pos rfl (ev_pos ?_ ?_)))))
    · rw [wrap64_of (by omega) (by omega)]; rfl
    · rw [wrap64_of (by omega) (by omega)]
      exact blanks_loop l hl hr d (i + 1) (by omega) (by omega)
theorem LexicBlanks : ententelaw08_LexicBlanks.Pure := by
  intro a0 _
  refine Ev.rounds ?_
  unfold ententelaw08_LexicBlanks.f
  refine ev_ite (fun h => Ev.bind awake_ev (Ev.some rfl)) (fun h => ?_)
  have hs : a0.size ≤ 1983 := by omega
  refine ev_bind0 (scan_eq a0) (ev_pos (by omega) (ev_bind0 (scan_eq (ahead ++ a0)) ?_))
  have hz : (ahead ++ a0).size = 17 + a0.size := ByteArray.size_append
  have e : sc (ahead ++ a0) = res (shq 17 (lexic_Scan.scn a0 (a0.size + 1) 0 [])) := by
    unfold sc
    rw [if_neg (by omega), hz, show 17 + a0.size + 1 = (a0.size + 14) + 4 by omega, scn_ahead]
    have := scn_behind ahead a0 (a0.size + 1) (a0.size + 14) 0 [] (Nat.zero_le _) (by omega) (by omega)
    congr 1
  have e0 : sc a0 = res (lexic_Scan.scn a0 (a0.size + 1) 0 []) := by unfold sc; rw [if_neg (by omega)]
  have hr := at_range a0 (by omega)
  have hl := scn_len a0 (a0.size + 1) 0 [] (Nat.zero_le _) (Nat.le_refl _)
  have hq : (lexic_Scan.scn a0 (a0.size + 1) 0 []).1 < 0 ∨ (0 ≤ (lexic_Scan.scn a0 (a0.size + 1) 0 []).1 ∧ (lexic_Scan.scn a0 (a0.size + 1) 0 []).1 ≤ 2000) := by
    refine scn_ind a0 (fun _ _ => True) (fun q => q.1 < 0 ∨ (0 ≤ q.1 ∧ q.1 ≤ 2000)) (fun _ _ _ _ _ => trivial) (fun _ _ _ _ _ => trivial) (fun _ _ _ _ _ _ _ _ => trivial) (fun _ _ => .inl (by show (-1 : Int) < 0; omega)) (fun i _ hi _ => .inr ⟨by show 0 ≤ (i : Int); omega, by show (i : Int) ≤ 2000; omega⟩) _ 0 [] (Nat.zero_le _) (by omega) trivial
  rw [e, e0]
  generalize lexic_Scan.scn a0 (a0.size + 1) 0 [] = q at hr hl hq
  obtain ⟨r, l⟩ := q
  unfold res shq
  by_cases hneg : r < 0
  · simp only [hneg, if_true]
    refine ev_pos (by rw [List.length_map]) (Ev.step (fun k => by rw [ententelaw08_LexicBlanks.j0]) (ev_neg (by decide) ?_))
    exact blanks_loop l (by show l.length ≤ _; have : l.length ≤ a0.size + 1 := hl; omega) hr _ 0 rfl (Nat.zero_le _)
  · have hr2 : 0 ≤ r ∧ r ≤ 2000 := hq.resolve_left hneg
    simp only [hneg, if_false]
    rw [if_neg (by omega)]
    refine ev_pos rfl (ev_pos rfl (ev_neg (by show ¬ (80 : Int) = 0; omega) (Ev.step (fun k => by rw [ententelaw08_LexicBlanks.j0]) (ev_neg ?_ ?_))))
    · rw [wrap64_of (by show -9223372036854775808 ≤ r + 17; omega) (by show r + 17 ≤ 9223372036854775807; omega)]
      simp
    · exact Ev.step (fun k => by rw [ententelaw08_LexicBlanks.l0]) (ev_neg (by show ¬ (0 : Int) < 0; omega) (Ev.bind awake_ev (Ev.some rfl)))
end Go.Proofs.YtghpbcfkldbpjabDoor.Pure

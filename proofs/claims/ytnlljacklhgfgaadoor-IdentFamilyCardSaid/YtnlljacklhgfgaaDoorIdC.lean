/- Ids' paths, organisations, parents, children, and which belong to which: the program's and the document's are one. -/
import Derived.Test.YtnlljacklhgfgaaDoorIdB
import Derived.Test.YtnlljacklhgfgaaDoorPKx10
import Derived.Test.YtnlljacklhgfgaaDoorPKx4
import Derived.Test.YtnlljacklhgfgaaDoorPKx1
import Derived.Test.YtnlljacklhgfgaaDoorPKx2
import Derived.Test.YtnlljacklhgfgaaDoorPKx12
import Derived.Test.YtnlljacklhgfgaaDoorPKx13
import Derived.Test.YtnlljacklhgfgaaDoorPKx5
namespace Go.Proofs.YtnlljacklhgfgaaDoor.IC
open Go.RowKit Go.Proofs.YtnlljacklhgfgaaDoorW.PrintWords Go.Proofs.YtnlljacklhgfgaaDoor.B Go.Proofs.YtnlljacklhgfgaaDoor.PI Go.Proofs.YtnlljacklhgfgaaDoor.IA Go.Proofs.YtnlljacklhgfgaaDoor.IB
set_option linter.unusedSimpArgs false
set_option linter.unusedVariables false
theorem good_len {a b : Int} {l : List S55} (h : good a b l = true) : l.length ≤ 4 := (good_iff.1 h).2.2.1
theorem path_ev (a b : Int) (l : List S55) (h : l.length ≤ 100000) : Ev (fun k => ident_path.f k a b l) (a :: orgs l) := Ev.of (fun k => ident_path.mono a b l k) (k := l.length + 1) (ident_Check.path_eq a b l h)
/-- The path of an id that may be. -/
def pth (a b : Int) (l : List S55) : List Int := if good a b l = true then a :: orgs l else []
theorem ipath_ev (a b : Int) (l : List S55) : Ev (fun k => ident_Path.f k a b l) (pth a b l) := by
  unfold ident_Path.f pth
  refine ev_bind0 (check_eq a b l) ?_
  by_cases h : good a b l = true
  · rw [if_pos h]
    exact ev_pos (chk0.2 h) (Ev.bind (path_ev a b l (by have := good_len h; omega)) (Ev.some rfl))
  · rw [if_neg h]
    exact ev_neg (fun h' => h (chk0.1 h')) (Ev.some rfl)
theorem rpath_loop (a b : Int) (l : List S55) (hl : l.length ≤ 4) : ∀ (d i : Nat) (out : List Int), l.length - i = d → i ≤ l.length → out.length ≤ i + 1 → Ev (fun k => ententeref03_Path.l0 k out (i : Int) a b l) (out ++ (orgs l).drop i)
  | 0, i, out, hd, hi, ho => by
    rw [List.drop_of_length_le (by unfold orgs; rw [List.length_map]; omega)]
    refine Ev.step (fun k => by rw [ententeref03_Path.l0]) ?_
    exact ev_neg (by omega) (Ev.some (by rw [List.append_nil]))
  | d + 1, i, out, hd, hi, ho => by
    have hlt : i < l.length := by omega
    have hlo : i < (orgs l).length := by unfold orgs; rw [List.length_map]; exact hlt
    refine Ev.step (fun k => by rw [ententeref03_Path.l0]) ?_
    refine ev_pos (by omega) (ev_pos (by omega) (ev_pos (by omega) ?_))
    rw [rd_get l i hlt, w64 i (by omega), List.drop_eq_getElem_cons hlo]
    have ih := rpath_loop a b l hl d (i + 1) (out ++ [l[i].f1]) (by omega) (by omega) (by rw [List.length_append]; simp only [List.length_cons, List.length_nil]; omega)
    rw [List.append_assoc] at ih
    have e : (orgs l)[i] = l[i].f1 := by simp [orgs]
    rw [e]
    exact ih
theorem rpath_ev (a b : Int) (l : List S55) : Ev (fun k => ententeref03_Path.f k a b l) (pth a b l) := by
  unfold ententeref03_Path.f pth
  refine Ev.bind (rcheck_ev a b l) ?_
  by_cases h : good a b l = true
  · rw [if_pos h]
    exact ev_pos (chk0.2 h) (rpath_loop a b l (good_len h) _ 0 [a] rfl (Nat.zero_le _) (by simp))
  · rw [if_neg h]
    exact ev_neg (fun h' => h (chk0.1 h')) (Ev.some rfl)
/-- Where an id's saga lives. -/
def org (a b : Int) (l : List S55) : Int := if good a b l = true then (a :: orgs l)[l.length]?.getD 0 else -1
theorem orgs_len (l : List S55) : (orgs l).length = l.length := by unfold orgs; rw [List.length_map]
theorem last_rd (a : Int) (l : List S55) (hl : l.length ≤ 4) : wrap64 (((a :: orgs l).length : Int) - 1) = (l.length : Int) ∧ rd (a :: orgs l) (l.length : Int) = (a :: orgs l)[l.length]?.getD 0 := by
  have hn : (a :: orgs l).length = l.length + 1 := by rw [List.length_cons, orgs_len]
  constructor
  · rw [hn, wrap64_of (by omega) (by omega)]; omega
  · rw [rdi_get _ _ (by omega), List.getElem?_eq_getElem (by omega)]; rfl
theorem iorg_ev (a b : Int) (l : List S55) : Ev (fun k => ident_Org.f k a b l) (org a b l) := by
  unfold ident_Org.f org
  refine ev_bind0 (check_eq a b l) ?_
  by_cases h : good a b l = true
  · rw [if_pos h]
    have hl := good_len h
    obtain ⟨h1, h2⟩ := last_rd a l hl
    refine ev_pos (chk0.2 h) (Ev.bind (path_ev a b l (by omega)) ?_)
    rw [h1]
    refine ev_pos (by omega) (ev_pos (by rw [List.length_cons, orgs_len]; omega) (Ev.some h2))
  · rw [if_neg h]
    exact ev_neg (fun h' => h (chk0.1 h')) (Ev.some rfl)
theorem rorg_ev (a b : Int) (l : List S55) : Ev (fun k => ententeref03_Org.f k a b l) (org a b l) := by
  unfold ententeref03_Org.f org
  refine Ev.bind (rpath_ev a b l) ?_
  unfold pth
  by_cases h : good a b l = true
  · rw [if_pos h, if_pos h]
    have hl := good_len h
    obtain ⟨h1, h2⟩ := last_rd a l hl
    refine ev_neg (by rw [List.length_cons, orgs_len]; omega) ?_
    rw [h1]
    exact ev_pos (by omega) (ev_pos (by rw [List.length_cons, orgs_len]; omega) (Ev.some h2))
  · rw [if_neg h, if_neg h]
    exact ev_pos rfl (Ev.some rfl)
theorem numbers_loop (l : List Int) (hl : l.length ≤ 1000) : ∀ (d i : Nat), l.length - i = d → i ≤ l.length → Ev (fun k => ententelaw03_numbers.l0 k l l (i : Int)) true
  | 0, i, hd, hi => by
    refine Ev.step (fun k => by rw [ententelaw03_numbers.l0]) ?_
    exact ev_neg (by omega) (Ev.some rfl)
  | d + 1, i, hd, hi => by
    refine Ev.step (fun k => by rw [ententelaw03_numbers.l0]) ?_
    refine ev_pos (by omega) (ev_pos (by omega) (ev_pos (by omega) (ev_pos rfl ?_)))
    rw [w64 i (by omega)]
    exact numbers_loop l hl d (i + 1) (by omega) (by omega)
theorem numbers_ev (l : List Int) (hl : l.length ≤ 1000) : Ev (fun k => ententelaw03_numbers.f k l l) true := by
  unfold ententelaw03_numbers.f
  exact ev_pos rfl (numbers_loop l hl _ 0 rfl (Nat.zero_le _))
theorem pth_len (a b : Int) (l : List S55) : (pth a b l).length ≤ 5 := by
  unfold pth
  split
  · rename_i h
    have := good_len h
    rw [List.length_cons, orgs_len]; omega
  · simp
/-! ### parents -/
def par (a b : Int) (l : List S55) : Int × Int × List S55 × Int × Bool := if good a b l = true ∧ 1 ≤ l.length then (a, b, l.take (l.length - 1), (rd_T55 l ((l.length - 1 : Nat) : Int)).f0, true) else (0, 0, [], 0, false)
theorem par_yes {a b : Int} {l : List S55} (h : good a b l = true) (h1 : 1 ≤ l.length) : par a b l = (a, b, l.take (l.length - 1), (rd_T55 l ((l.length - 1 : Nat) : Int)).f0, true) := by unfold par; rw [if_pos ⟨h, h1⟩]
theorem par_no {a b : Int} {l : List S55} (h : ¬ (good a b l = true ∧ 1 ≤ l.length)) : par a b l = (0, 0, [], 0, false) := by unfold par; rw [if_neg h]
theorem parent_ev (a b : Int) (l : List S55) (hn : l.length ≤ 9223372036854775807) : Ev (fun _ => ident_Parent.f a b l) (par a b l) := by
  unfold ident_Parent.f
  refine ev_bind0 (check_eq a b l) ?_
  by_cases h : good a b l = true
  case neg =>
    rw [par_no (fun h' => h h'.1)]
    exact ev_neg (fun h' => h (chk0.1 h')) (Ev.some rfl)
  have hl := good_len h
  refine ev_pos (chk0.2 h) ?_
  by_cases h1 : 1 ≤ l.length
  · rw [par_yes h h1, w64m _ h1 hn]
    refine ev_neg (by omega) ?_
    refine ev_pos (by omega) ?_
    refine ev_pos (by omega) ?_
    rw [Int.toNat_natCast]
    refine ev_bind0 (a := l.take (l.length - 1)) ?_ ?_
    · unfold api_Hop_32.f
      rw [if_pos (by rw [List.length_take]; omega)]
    · exact ev_pos (by omega) (Ev.some rfl)
  · rw [par_no (fun h' => h1 h'.2)]
    have e : wrap64 ((l.length : Int) - 1) < 0 := by rw [wrap64_of (by omega) (by omega)]; omega
    exact ev_pos e (Ev.some rfl)
/-! ### children -/
def chi (a b : Int) (l : List S55) (s o : Int) : Int × Int × List S55 × Int := if good a b l = true ∧ good a b (l ++ [⟨s, o⟩]) = true then (a, b, l ++ [⟨s, o⟩], 0) else (0, 0, [], 30)
theorem chk30 {a b : Int} {l : List S55} (h : ¬ good a b l = true) : chk a b l = 30 := by unfold chk; rw [if_neg h]
theorem chi_yes {a b : Int} {l : List S55} {s o : Int} (h : good a b l = true) (h1 : good a b (l ++ [⟨s, o⟩]) = true) : chi a b l s o = (a, b, l ++ [⟨s, o⟩], 0) := by unfold chi; rw [if_pos ⟨h, h1⟩]
theorem chi_no {a b : Int} {l : List S55} {s o : Int} (h : ¬ (good a b l = true ∧ good a b (l ++ [⟨s, o⟩]) = true)) : chi a b l s o = (0, 0, [], 30) := by unfold chi; rw [if_neg h]
theorem child_ev (a b : Int) (l : List S55) (s o : Int) : Ev (fun _ => ident_Child.f a b l s o) (chi a b l s o) := by
  unfold ident_Child.f
  refine ev_bind0 (check_eq a b l) ?_
  by_cases h : good a b l = true
  case neg =>
    rw [chi_no (fun h' => h h'.1), chk30 h]
    exact ev_neg (by decide) (Ev.some rfl)
  have hl := good_len h
  refine ev_pos (chk0.2 h) ?_
  refine ev_bind0 (a := l) ?_ ?_
  · unfold api_Hop_32.f
    rw [if_pos (by omega)]
  refine ev_bind0 (a := [⟨s, o⟩]) rfl ?_
  refine ev_pos (by simp only [List.length_cons, List.length_nil]; omega) ?_
  refine ev_bind0 (a := l ++ [⟨s, o⟩]) rfl ?_
  refine ev_bind0 (check_eq a b _) ?_
  by_cases h2 : good a b (l ++ [⟨s, o⟩]) = true
  · rw [chi_yes h h2]
    exact ev_pos (chk0.2 h2) (Ev.some rfl)
  · rw [chi_no (fun h' => h2 h'.2), chk30 h2]
    exact ev_neg (by decide) (Ev.some rfl)
/-! ### belonging -/
theorem pre_iff : ∀ {x l : List S55}, ident_Under.pre x l = true ↔ x = l.take x.length
  | [], l => by simp [ident_Under.pre]
  | x :: xs, [] => by simp [ident_Under.pre]
  | ⟨x0, x1⟩ :: xs, ⟨y0, y1⟩ :: ys => by
    unfold ident_Under.pre
    rw [Bool.and_eq_true, pre_iff (x := xs) (l := ys), List.length_cons, List.take_succ_cons, List.cons.injEq]
    simp
theorem rund1 (a b : Int) (l : List S55) (hl : l.length ≤ 200) (m : List S24) (hm : m.length ≤ 101) (i : Nat) (hi : i < m.length) (hx : (m[i]).f2.length ≤ 200) (hn : ident_Under.undB a b l m[i] = false → Ev (fun k => ententeref03_Under.l0 k m ((i + 1 : Nat) : Int) a b l) ((m.drop (i + 1)).any (ident_Under.undB a b l))) :
    ∀ (d n : Nat), l.length + 1 - n = d → n ≤ l.length + 1 → (∀ q, q < n → ¬ cmpv (m[i]).f0 (m[i]).f1 (m[i]).f2 a b (l.take q) = 0) → Ev (fun k => ententeref03_Under.l1 k m (i : Int) (n : Int) a b l) ((m.drop i).any (ident_Under.undB a b l))
  | 0, n, hd, hnl, hq => by
    rw [List.drop_eq_getElem_cons hi, List.any_cons]
    have hu : ident_Under.undB a b l m[i] = false := by
      cases hb : ident_Under.undB a b l m[i] with
      | false => rfl
      | true =>
        exfalso
        unfold ident_Under.undB at hb
        simp only [Bool.and_eq_true, beq_iff_eq] at hb
        obtain ⟨h1, h2, h3⟩ := hb
        rw [pre_iff] at h3
        by_cases hle : (m[i]).f2.length ≤ l.length
        · exact hq (m[i]).f2.length (by omega) (cmpv0.2 ⟨h1, h2, h3⟩)
        · have := congrArg List.length h3
          rw [List.length_take] at this
          omega
    rw [hu, Bool.false_or]
    refine Ev.step (fun k => by rw [ententeref03_Under.l1]) ?_
    rw [w64 i (by omega)]
    exact ev_neg (by omega) (hn hu)
  | d + 1, n, hd, hnl, hq => by
    have ih := rund1 a b l hl m hm i hi hx hn d (n + 1) (by omega) (by omega)
    have hg : rd_T24 m (i : Int) = m[i] := by
      unfold rd_T24
      rw [Int.toNat_natCast, List.getD_eq_getElem?_getD, List.getElem?_eq_getElem hi]
      rfl
    refine Ev.step (fun k => by rw [ententeref03_Under.l1]) ?_
    rw [hg, Int.toNat_natCast, w64 n (by omega)]
    refine ev_pos (by omega) (ev_pos (by omega) (ev_pos (by omega) (ev_pos (by omega) (Ev.bind (rcmp_ev _ _ _ _ _ _ (by omega) (by rw [List.length_take]; omega)) ?_))))
    by_cases h : cmpv (m[i]).f0 (m[i]).f1 (m[i]).f2 a b (l.take n) = 0
    · refine ev_pos h (Ev.some ?_)
      rw [List.drop_eq_getElem_cons hi, List.any_cons]
      have hu : ident_Under.undB a b l m[i] = true := by
        obtain ⟨h1, h2, h3⟩ := cmpv0.1 h
        unfold ident_Under.undB
        simp only [Bool.and_eq_true, beq_iff_eq]
        refine ⟨h1, h2, pre_iff.2 ?_⟩
        have h4 := congrArg List.length h3
        rw [List.length_take, Nat.min_eq_left (by omega)] at h4
        rw [h4]; exact h3
      rw [hu, Bool.true_or]
    · refine ev_neg h (ih (fun q hq2 => ?_))
      by_cases e : q = n
      · rw [e]; exact h
      · exact hq q (by omega)
theorem rund0 (a b : Int) (l : List S55) (hl : l.length ≤ 200) (m : List S24) (hm : m.length ≤ 101) (hx : ∀ (i : Nat) (h : i < m.length), (m[i]).f2.length ≤ 200) : ∀ (d i : Nat), m.length - i = d → i ≤ m.length → Ev (fun k => ententeref03_Under.l0 k m (i : Int) a b l) ((m.drop i).any (ident_Under.undB a b l))
  | 0, i, hd, hi => by
    rw [List.drop_of_length_le (by omega)]
    refine Ev.step (fun k => by rw [ententeref03_Under.l0]) ?_
    exact ev_neg (by omega) (Ev.some rfl)
  | d + 1, i, hd, hi => by
    refine Ev.step (fun k => by rw [ententeref03_Under.l0]) ?_
    refine ev_pos (by omega) ?_
    exact rund1 a b l hl m hm i (by omega) (hx i (by omega)) (fun _ => rund0 a b l hl m hm hx d (i + 1) (by omega) (by omega)) _ 0 rfl (Nat.zero_le _) (fun q hq => by omega)
theorem rund_ev (a b : Int) (l : List S55) (hl : l.length ≤ 200) (m : List S24) (hm : fewv m = true) : Ev (fun k => ententeref03_Under.f k a b l m) (m.any (ident_Under.undB a b l)) := by
  unfold fewv at hm
  rw [Bool.and_eq_true, decide_eq_true_eq, List.all_eq_true] at hm
  unfold ententeref03_Under.f
  exact rund0 a b l hl m hm.2 (fun i h => of_decide_eq_true (hm.1 _ (List.getElem_mem h))) _ 0 rfl (Nat.zero_le _)
theorem awake_ev : Ev ententelaw03_awake.f true := Ev.of (fun k => ententelaw03_awake.mono k) (k := 60) (by decide +kernel)
end Go.Proofs.YtnlljacklhgfgaaDoor.IC

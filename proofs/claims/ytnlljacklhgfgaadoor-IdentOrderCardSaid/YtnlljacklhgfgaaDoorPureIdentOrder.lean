/- The plain statement: ids are totally ordered; a parent comes ahead of its child. -/
import Derived.Test.YtnlljacklhgfgaaDoorIdC
import Derived.Test.YtnlljacklhgfgaaDoorPJx14
namespace Go.Proofs.YtnlljacklhgfgaaDoor.Pure
open Go.RowKit Go.Proofs.YtnlljacklhgfgaaDoorW.PrintWords Go.Proofs.YtnlljacklhgfgaaDoor.B Go.Proofs.YtnlljacklhgfgaaDoor.PI Go.Proofs.YtnlljacklhgfgaaDoor.IA Go.Proofs.YtnlljacklhgfgaaDoor.IB Go.Proofs.YtnlljacklhgfgaaDoor.IC
set_option linter.unusedSimpArgs false
set_option linter.unusedVariables false
/-- x, y, z: how a stands to b, b to c, a to c, in an order. -/
def Tri (x y z : Int) : Prop := (x ≤ 0 → y ≤ 0 → z ≤ 0) ∧ (x < 0 → y ≤ 0 → z < 0) ∧ (x ≤ 0 → y < 0 → z < 0) ∧ (x = 0 → z = y) ∧ (y = 0 → z = x)
theorem tri_num (a b c : Int) : Tri (num a b) (num b c) (num a c) := by
  unfold Tri num
  refine ⟨?_, ?_, ?_, ?_, ?_⟩ <;> (repeat' split) <;> omega
theorem tri_lex {x1 y1 z1 x2 y2 z2 : Int} (h1 : Tri x1 y1 z1) (h2 : Tri x2 y2 z2) : Tri (if x1 = 0 then x2 else x1) (if y1 = 0 then y2 else y1) (if z1 = 0 then z2 else z1) := by
  unfold Tri at *
  obtain ⟨a1, a2, a3, a4, a5⟩ := h1
  obtain ⟨b1, b2, b3, b4, b5⟩ := h2
  have sel : ∀ (p q : Int), ∃ r, r = (if p = 0 then q else p) ∧ ((p = 0 ∧ r = q) ∨ (p ≠ 0 ∧ r = p)) := fun p q => ⟨_, rfl, by by_cases h : p = 0 <;> simp [h]⟩
  obtain ⟨x, ex, hx⟩ := sel x1 x2
  obtain ⟨y, ey, hy⟩ := sel y1 y2
  obtain ⟨z, ez, hz⟩ := sel z1 z2
  rw [← ex, ← ey, ← ez]
  clear ex ey ez sel
  rcases hx with hx | hx <;> rcases hy with hy | hy <;> rcases hz with hz | hz <;> refine ⟨?_, ?_, ?_, ?_, ?_⟩ <;> omega
theorem tri_hop (x y z : S55) : Tri (hopc x y) (hopc y z) (hopc x z) := tri_lex (tri_num _ _ _) (tri_num _ _ _)
theorem tri_cmpL : ∀ (l m n : List S55), Tri (cmpL l m) (cmpL m n) (cmpL l n)
  | [], [], [] => by unfold Tri; simp only [cmpL]; decide
  | [], [], _ :: _ => by unfold Tri; simp only [cmpL]; decide
  | [], _ :: _, [] => by unfold Tri; simp only [cmpL]; decide
  | _ :: _, [], [] => by unfold Tri; simp only [cmpL]; decide
  | x :: xs, [], z :: zs => by
    unfold Tri
    rw [show cmpL (x :: xs) [] = 1 from rfl, show cmpL [] (z :: zs) = -1 from rfl]
    generalize cmpL (x :: xs) (z :: zs) = q
    refine ⟨?_, ?_, ?_, ?_, ?_⟩ <;> intros <;> omega
  | [], y :: ys, z :: zs => by
    unfold Tri
    rw [show cmpL [] (y :: ys) = -1 from rfl, show cmpL [] (z :: zs) = -1 from rfl]
    generalize cmpL (y :: ys) (z :: zs) = q
    refine ⟨?_, ?_, ?_, ?_, ?_⟩ <;> intros <;> omega
  | x :: xs, y :: ys, [] => by
    unfold Tri
    rw [show cmpL (y :: ys) [] = 1 from rfl, show cmpL (x :: xs) [] = 1 from rfl]
    generalize cmpL (x :: xs) (y :: ys) = q
    refine ⟨?_, ?_, ?_, ?_, ?_⟩ <;> intros <;> omega
  | x :: xs, y :: ys, z :: zs => by
    unfold cmpL
    exact tri_lex (tri_hop x y z) (tri_cmpL xs ys zs)
theorem tri_cmpv (a b : Int) (l : List S55) (a' b' : Int) (m : List S55) (a'' b'' : Int) (n : List S55) : Tri (cmpv a b l a' b' m) (cmpv a' b' m a'' b'' n) (cmpv a b l a'' b'' n) := tri_lex (tri_num _ _ _) (tri_lex (tri_num _ _ _) (tri_cmpL _ _ _))
theorem hopc_neg (x y : S55) : hopc y x = - hopc x y := by
  unfold hopc
  rw [num_neg x.f0 y.f0, num_neg x.f1 y.f1]
  by_cases h : num x.f0 y.f0 = 0
  · rw [if_pos h, if_pos (by omega)]
  · rw [if_neg h, if_neg (by omega)]
theorem cmpL_neg : ∀ (l m : List S55), cmpL m l = - cmpL l m
  | [], [] => rfl
  | [], _ :: _ => rfl
  | _ :: _, [] => rfl
  | x :: xs, y :: ys => by
    unfold cmpL
    rw [hopc_neg x y, cmpL_neg xs ys]
    by_cases h : hopc x y = 0
    · rw [if_pos h, if_pos (by omega)]
    · rw [if_neg h, if_neg (by omega)]
theorem cmpv_neg (a b : Int) (l : List S55) (a' b' : Int) (m : List S55) : cmpv a' b' m a b l = - cmpv a b l a' b' m := by
  unfold cmpv
  rw [num_neg a a', num_neg b b', cmpL_neg l m]
  by_cases h : num a a' = 0
  · rw [if_pos h, if_pos (by omega)]
    by_cases h2 : num b b' = 0
    · rw [if_pos h2, if_pos (by omega)]
    · rw [if_neg h2, if_neg (by omega)]
  · rw [if_neg h, if_neg (by omega)]
theorem hopc_rng (x y : S55) : -1 ≤ hopc x y ∧ hopc x y ≤ 1 := by
  have h1 := num_rng x.f0 y.f0
  have h2 := num_rng x.f1 y.f1
  unfold hopc
  split <;> omega
theorem cmpL_rng : ∀ (l m : List S55), -1 ≤ cmpL l m ∧ cmpL l m ≤ 1
  | [], [] => by simp [cmpL]
  | [], _ :: _ => by simp [cmpL]
  | _ :: _, [] => by simp [cmpL]
  | x :: xs, y :: ys => by
    have h1 := hopc_rng x y
    have h2 := cmpL_rng xs ys
    unfold cmpL
    split <;> omega
theorem cmpv_rng (a b : Int) (l : List S55) (a' b' : Int) (m : List S55) : -1 ≤ cmpv a b l a' b' m ∧ cmpv a b l a' b' m ≤ 1 := by
  have h1 := num_rng a a'
  have h2 := num_rng b b'
  have h3 := cmpL_rng l m
  unfold cmpv
  repeat' split
  all_goals omega
theorem cmpL_take : ∀ (l : List S55), 1 ≤ l.length → cmpL (l.take (l.length - 1)) l = -1
  | [], h => by simp at h
  | [x], _ => rfl
  | x :: y :: l, _ => by
    have e : (x :: y :: l).length - 1 = ((y :: l).length - 1) + 1 := by simp
    rw [e, List.take_succ_cons]
    unfold cmpL
    rw [if_pos (hopc0.2 rfl)]
    exact cmpL_take (y :: l) (by simp)
theorem IdentOrder (a b : Int) (l : List S55) (a' b' : Int) (m : List S55) (a'' b'' : Int) (n : List S55) : ∃ k, ententelaw03_IdentOrder.f k a b l a' b' m a'' b'' n = some true := by
  have key : Ev (fun k => ententelaw03_IdentOrder.f k a b l a' b' m a'' b'' n) true := by
    unfold ententelaw03_IdentOrder.f
    refine Ev.bind (few_ev _) (ev_ite (fun h => ?_) (fun h => Ev.bind awake_ev (Ev.some rfl)))
    have hh : l.length ≤ 200 ∧ m.length ≤ 200 ∧ n.length ≤ 200 := by simpa [fewv, and_assoc] using h
    obtain ⟨hl, hm, hn⟩ := hh
    have hT := tri_cmpv a b l a' b' m a'' b'' n
    have hr := cmpv_rng a b l a' b' m
    have hneg := cmpv_neg a b l a' b' m
    have h00 : cmpv a b l a b l = 0 := cmpv0.2 ⟨rfl, rfl, rfl⟩
    refine Ev.bind (cmp_ev _ _ _ _ _ _ (by omega) (by omega)) (Ev.bind (cmp_ev _ _ _ _ _ _ (by omega) (by omega)) (Ev.bind (cmp_ev _ _ _ _ _ _ (by omega) (by omega)) (Ev.bind (cmp_ev _ _ _ _ _ _ (by omega) (by omega)) ?_)))
    have fin : ∀ x : Bool, x = false → Ev (fun k => ententelaw03_IdentOrder.j0 k (cmpv a b l a' b' m) x a b l a' b' m) true := by
      intro x hx
      subst hx
      refine Ev.step (fun k => by rw [ententelaw03_IdentOrder.j0]) ?_
      refine ev_neg (by decide) (Ev.bind (parent_ev a b l (by omega)) (Ev.bind (same_ev a b l a' b' m (by omega) (by omega)) (ev_pos (by simp) ?_)))
      unfold par
      by_cases hp : good a b l = true ∧ 1 ≤ l.length
      · rw [if_pos hp]
        have hc : cmpv a b (l.take (l.length - 1)) a b l = -1 := by
          unfold cmpv
          rw [if_pos (num0.2 rfl), if_pos (num0.2 rfl)]
          exact cmpL_take l hp.2
        have hcc := cmp_ev a b (l.take (l.length - 1)) a b l (by rw [List.length_take]; omega) (by omega)
        rw [hc] at hcc
        refine ev_pos rfl (Ev.bind hcc (ev_pos rfl ?_))
        have hu1 : ([(⟨a, b, l.take (l.length - 1)⟩ : S24)].any (ident_Under.undB a b l)) = true := by
          simp only [List.any_cons, List.any_nil, Bool.or_false, ident_Under.undB, beq_self_eq_true, Bool.true_and]
          rw [pre_iff, List.length_take]
          congr 1
          omega
        have hu2 : ([(⟨a, b, l⟩ : S24)].any (ident_Under.undB a b (l.take (l.length - 1)))) = false := by
          simp only [List.any_cons, List.any_nil, Bool.or_false, ident_Under.undB, beq_self_eq_true, Bool.true_and]
          refine ident_Under.pre_len _ _ ?_
          rw [List.length_take]; omega
        refine ev_bind0 (a := true) (by unfold ident_Under.f; rw [hu1]) (ev_pos rfl ?_)
        exact ev_bind0 (a := false) (by unfold ident_Under.f; rw [hu2]) (ev_neg (by decide) (Ev.bind awake_ev (Ev.some rfl)))
      · rw [if_neg hp]
        exact ev_neg (by decide) (Ev.bind awake_ev (Ev.some rfl))
    have fin2 : Ev (fun k => (ident_Cmp.f k a b l a b l).bind fun t => ententelaw03_IdentOrder.j0 k (cmpv a b l a' b' m) (t != 0) a b l a' b' m) true := Ev.bind (cmp_ev _ _ _ _ _ _ (by omega) (by omega)) (fin _ (by rw [h00]; rfl))
    unfold Tri at hT
    rw [hneg]
    generalize cmpv a b l a' b' m = x at *
    generalize cmpv a' b' m a'' b'' n = y at *
    generalize cmpv a b l a'' b'' n = z at *
    obtain ⟨t1, t2, t3, _, _⟩ := hT
    refine ev_pos (by rw [wrap64_of (by omega) (by omega)]; omega) (ev_neg (by omega) (ev_neg (by omega) ?_))
    refine ev_ite (fun c1 => ev_ite (fun c2 => ev_neg (by omega) (ev_ite (fun c3 => ev_neg (by omega) fin2) (fun c3 => fin2))) (fun c2 => ev_ite (fun c3 => fin2) (fun c3 => fin2))) (fun c1 => ev_neg (by omega) fin2)
  obtain ⟨k, hk⟩ := key
  exact ⟨k, hk k (Nat.le_refl _)⟩
end Go.Proofs.YtnlljacklhgfgaaDoor.Pure

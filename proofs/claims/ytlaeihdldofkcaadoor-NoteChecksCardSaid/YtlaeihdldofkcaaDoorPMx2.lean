/- The machine side of this seat's laws: plain functions, and proofs that the calls do what they say; written by a program of this session over the translation; no conditions beyond those typed. -/
import Derived.Test.YtlaeihdldofkcaaDoorPMx0
import Derived.Test.YtlaeihdldofkcaaDoorPMx1
namespace Go.Proofs.YtlaeihdldofkcaaDoor.PN
open Go.RowKit Go.Proofs.YtlaeihdldofkcaaDoorW.PrintWords Go.Proofs.YtlaeihdldofkcaaDoorW.PrintLast Go.Proofs.YtlaeihdldofkcaaDoorW.PrintMore
attribute [local go_sem] max2_int min2_int max_two min_two max_three min_three max_four min_four   -- for this text's walks alone
set_option linter.unusedVariables false
set_option linter.unusedSimpArgs false

/-! ### note_Check: function 12 -/
def note_Check.c2 (a0 : Int) (nm : Bool) (s : ByteArray) : Bool := if a0 = 1 then !nm else nm || s.toList != []
def note_Check.c3 (a0 : Int) (a5 : Int) : Bool := if a0 = 6 then !(decide (1 ≤ a5) && decide (a5 ≤ 9)) else a5 != 0
def note_Check.res (a0 : Int) (ch nm : Bool) (s : ByteArray) (a5 : Int) : Int :=
 if a0 < 1 ∨ 7 < a0 ∨ ch = false then 130
 else if note_Check.c2 a0 nm s = true then 130
 else if note_Check.c3 a0 a5 = true then 130 else 0
def note_Check.f (k : Nat) (a0 a1 a2 : Int) (l : List S50) (s : ByteArray) (a5 : Int) : Option Int := (ident_Parent.f a1 a2 l).bind fun p => (act_Name.f k s).bind fun nm => some (note_Check.res a0 p.2.2.2.2 nm s a5)
theorem note_Check.mono : ∀ a0 a1 a2 l s a5 k, LeO (note_Check.f k a0 a1 a2 l s a5) (note_Check.f (k + 1) a0 a1 a2 l s a5) := by
 intro a0 a1 a2 l s a5 k
 unfold note_Check.f
 exact LeO.bind (LeO.refl _) (fun _ => LeO.bind (act_Name.mono _ _) (fun _ => LeO.refl _))
set_option maxHeartbeats 8000000 in
set_option maxRecDepth 100000 in
theorem note_Check.calls (k : Nat) (a0_0 : Int) (a0_1 : Int) (a0_2 : Int) (A0_3 : Option Addr) (c0_3 : Nat) (l0_3 : List (S50)) (a0_4 : ByteArray) (a0_5 : Int) (r : Int) (w : World) (hr0_3 : Kd.C k50 w A0_3 l0_3.length l0_3) (hc0_3 : l0_3.length ≤ c0_3) (h : note_Check.f k a0_0 a0_1 a0_2 l0_3 a0_4 a0_5 = some r) :
  Calls Tryd.prog 12 #[.agg #[.int .i64 a0_0, .int .i64 a0_1, .int .i64 a0_2, .slice A0_3 l0_3.length c0_3, .string a0_4, .int .i64 a0_5]] w fun e w' => e = .returned (.int .i64 r) ∧ Below w.heap.size w w' := by
 have hu1 := Tryd.underlying24
 have hu2 := Tryd.underlying50
 have hu3 := Tryd.underlying26
 have HR := Aside0.mk hr0_3
 have HC := Aside0.mk hc0_3
 have HB := Aside0.mk (Below.refl w.heap.size w)
 unfold note_Check.f at h
 obtain ⟨⟨p1, p2, p3, p4, p5⟩, hp, h⟩ := Option.bind_eq_some_iff.1 h
 obtain ⟨nm, hn, h⟩ := Option.bind_eq_some_iff.1 h
 have HX := Aside0.mk (show note_Check.res a0_0 p5 nm a0_4 a0_5 = r from Option.some.inj h)
 have HP := Aside0.mk hp
 have HN := Aside0.mk hn
 clear hr0_3 hc0_3 hp hn h
 go_enter Tryd.func12, Tryd.ntmps12
 go_wp2_with (first | ((with_reducible refine gate_dst (N := 1) rfl ?_); refine box_event ?hg (N := 1) ?hd (cs := #[.int .i64 a0_0, .int .i64 a0_1, .int .i64 a0_2, .slice A0_3 l0_3.length c0_3, .string a0_4, .int .i64 a0_5]) (t := 26) ?hr ?_; (case hd => rfl); (case hg => rfl); (case hr => (go_simp; done)); intro gb1 hg wb1 hbox hb; have n0_ := Aside0.mk (below_step (HB.out) hb); have n3_ := Aside0.mk ((by rw [hg]; exact (below_size (HB.out)) : w.heap.size ≤ gb1)); have BK1 := Aside0.mk hbox; clear HB; have HB := n0_; have GE1 := n3_; clear n0_ n3_; clear hb hbox hg; obtain ⟨hc1_0, hf1_0, hc1_1, hf1_1, hc1_2, hf1_2, hc1_3, hf1_3, hc1_4, hf1_4, hc1_5, hf1_5⟩ := be6 BK1.out) | (go_at_call 20; refine (ident_Parent.calls a0_1 a0_2 A0_3 c0_3 l0_3 p1 p2 p3 p4 p5 _ (Kd.C_below HR.out (HB.out)) HC.out HP.out).mono ?_; rintro e wc8 ⟨v8, rfl, hO8, hb⟩; have n0_ := Aside0.mk (below_step (HB.out) hb); have m1_ := Aside0.mk (blk_below BK1.out hb); obtain ⟨A8, c8, e8⟩ := Kd.R_slice hO8; subst e8; clear hO8 HB; have HB := n0_; clear n0_ hb; clear BK1 hc1_0 hf1_0 hc1_1 hf1_1 hc1_2 hf1_2 hc1_3 hf1_3 hc1_4 hf1_4 hc1_5 hf1_5; have BK1 := m1_; clear m1_; obtain ⟨hc1_0, hf1_0, hc1_1, hf1_1, hc1_2, hf1_2, hc1_3, hf1_3, hc1_4, hf1_4, hc1_5, hf1_5⟩ := be6 BK1.out) | ((with_reducible refine gate_dst (N := 3) rfl ?_); refine box_event ?hg (N := 3) ?hd (cs := #[.int .i64 0, .int .i64 0, .slice none 0 0]) (t := 24) ?hr ?_; (case hd => rfl); (case hg => rfl); (case hr => (go_simp; done)); intro gb3 hg wb3 hbox hb; have n0_ := Aside0.mk (below_step (HB.out) hb); have n3_ := Aside0.mk ((by rw [hg]; exact (below_size (HB.out)) : w.heap.size ≤ gb3)); have NE1_3 : gb1 ≠ gb3 := (by rw [hg]; exact Nat.ne_of_lt (blk_lt BK1.out)); have NE3_1 := Ne.symm NE1_3; have m1_ := Aside0.mk (blk_below BK1.out hb); have BK3 := Aside0.mk hbox; clear HB; have HB := n0_; have GE3 := n3_; clear n0_ n3_; clear hb hbox hg; clear BK1 hc1_0 hf1_0 hc1_1 hf1_1 hc1_2 hf1_2 hc1_3 hf1_3 hc1_4 hf1_4 hc1_5 hf1_5; have BK1 := m1_; clear m1_; obtain ⟨hc1_0, hf1_0, hc1_1, hf1_1, hc1_2, hf1_2, hc1_3, hf1_3, hc1_4, hf1_4, hc1_5, hf1_5⟩ := be6 BK1.out; obtain ⟨hc3_0, hf3_0, hc3_1, hf3_1, hc3_2, hf3_2⟩ := be3 BK3.out) | ((with_reducible refine gate_store (t := 24) (p := 3) rfl ?_); refine store_event (t := 24) (p := 3) (v := ?vz_1) (w1 := (((wb3.setCell ⟨gb3, 0, none⟩ (.int .i64 p1)).setCell ⟨gb3, 1, none⟩ (.int .i64 p2)).setCell ⟨gb3, 2, none⟩ (.slice A8 p3.length c8))) ?hg ?ho ?hn ?hr ?_; (case ho => rfl); (case hg => rfl); (case hn => rfl); (case hr => (go_simp; done)); intro ws3 hw; have n0_ : Aside0 (Below w.heap.size w ws3) := ⟨by rw [hw]; exact (below_set (below_set (below_set HB.out GE3.out) GE3.out) GE3.out)⟩; have n1_ : Aside0 (ws3.heap[gb3]? = some (.cells #[.int .i64 p1, .int .i64 p2, .slice A8 p3.length c8] 24 (0, 0))) := ⟨by rw [hw]; exact (blk_put (cs' := #[.int .i64 p1, .int .i64 p2, .slice A8 p3.length c8]) (blk_put (cs' := #[.int .i64 p1, .int .i64 p2, .slice none 0 0]) (blk_put (cs' := #[.int .i64 p1, .int .i64 0, .slice none 0 0]) BK3.out 0 (.int .i64 p1) rfl) 1 (.int .i64 p2) rfl) 2 (.slice A8 p3.length c8) rfl)⟩; have m1_ : Aside0 (ws3.heap[gb1]? = some (.cells #[.int .i64 a0_0, .int .i64 a0_1, .int .i64 a0_2, .slice A0_3 l0_3.length c0_3, .string a0_4, .int .i64 a0_5] 26 (0, 0))) := ⟨by rw [hw]; exact (blk_far (blk_far (blk_far BK1.out NE1_3 (.int .i64 p1)) NE1_3 (.int .i64 p2)) NE1_3 (.slice A8 p3.length c8))⟩; clear hw HB; have HB := n0_; clear BK3 hc3_0 hf3_0 hc3_1 hf3_1 hc3_2 hf3_2; have BK3 := n1_; clear n0_ n1_; clear BK1 hc1_0 hf1_0 hc1_1 hf1_1 hc1_2 hf1_2 hc1_3 hf1_3 hc1_4 hf1_4 hc1_5 hf1_5; have BK1 := m1_; clear m1_; obtain ⟨hc1_0, hf1_0, hc1_1, hf1_1, hc1_2, hf1_2, hc1_3, hf1_3, hc1_4, hf1_4, hc1_5, hf1_5⟩ := be6 BK1.out; obtain ⟨hc3_0, hf3_0, hc3_1, hf3_1, hc3_2, hf3_2⟩ := be3 BK3.out))
 go_quiet (fail)
 have d0 := HX.out
 unfold note_Check.res at d0
 by_cases c1 : a0_0 < 1
 ·rw [if_pos (.inl c1)] at d0
  have HRR := Aside0.mk d0.symm; clear d0
  have c1b := decide_eq_true c1
  (go_wp2_with (fail); go_ret; exact ⟨by (obtain ⟨hr⟩ := HRR; subst hr; rfl), (pw_below_drewN HB.out _)⟩)
 have c1b := decide_eq_false c1
 by_cases c2 : 7 < a0_0
 ·rw [if_pos (.inr (.inl c2))] at d0
  have HRR := Aside0.mk d0.symm; clear d0
  have c2b := decide_eq_true c2
  (go_wp2_with (fail); go_ret; exact ⟨by (obtain ⟨hr⟩ := HRR; subst hr; rfl), (pw_below_drewN HB.out _)⟩)
 have c2b := decide_eq_false c2
 cases p5 with
 | false =>
  rw [if_pos (.inr (.inr rfl))] at d0
  have HRR := Aside0.mk d0.symm; clear d0
  (go_wp2_with (fail); go_ret; exact ⟨by (obtain ⟨hr⟩ := HRR; subst hr; rfl), (pw_below_drewN HB.out _)⟩)
 | true =>
 rw [if_neg (by simp [c1, c2])] at d0
 by_cases e1 : a0_0 = 1
 ·have e1b : (a0_0 == 1) = true := beq_iff_eq.2 e1
  have e6b : (a0_0 == 6) = false := beq_eq_false_iff_ne.2 (by omega)
  rw [show note_Check.c2 a0_0 nm a0_4 = !nm from if_pos e1, show note_Check.c3 a0_0 a0_5 = (a0_5 != 0) from if_neg (by omega)] at d0
  cases nm with
  | false =>
   rw [if_pos (by simp)] at d0
   have HRR := Aside0.mk d0.symm; clear d0
   clear c1 c2 e1
   (go_wp2_with (first | (go_at_call 27; (with_reducible refine (act_Name.calls k a0_4 _ _ HN.out).mono ?_); rintro e w' ⟨rfl, ⟨nd, rfl⟩⟩)); go_ret; exact ⟨by (obtain ⟨hr⟩ := HRR; subst hr; rfl), (pw_below_drewN HB.out _)⟩)
  | true =>
   rw [if_neg (by decide)] at d0
   clear c1 c2 e1
   by_cases f1 : 1 ≤ a0_5
   ·rw [if_pos (bne_iff_ne.2 (by omega))] at d0
    have HRR := Aside0.mk d0.symm; clear d0
    have f1b := decide_eq_true f1
    have f3 : (a0_5 != 0) = true := bne_iff_ne.2 (by omega)
    by_cases f2 : a0_5 ≤ 9
    ·have f2b := decide_eq_true f2
     (go_wp2_with (first | (go_at_call 27; (with_reducible refine (act_Name.calls k a0_4 _ _ HN.out).mono ?_); rintro e w' ⟨rfl, ⟨nd, rfl⟩⟩)); go_ret; exact ⟨by (obtain ⟨hr⟩ := HRR; subst hr; rfl), (pw_below_drewN HB.out _)⟩)
    ·have f2b := decide_eq_false f2
     (go_wp2_with (first | (go_at_call 27; (with_reducible refine (act_Name.calls k a0_4 _ _ HN.out).mono ?_); rintro e w' ⟨rfl, ⟨nd, rfl⟩⟩)); go_ret; exact ⟨by (obtain ⟨hr⟩ := HRR; subst hr; rfl), (pw_below_drewN HB.out _)⟩)
   ·have f1b := decide_eq_false f1
    by_cases f2 : a0_5 = 0
    ·rw [if_neg (by simp [f2])] at d0
     have HRR := Aside0.mk d0.symm; clear d0
     have f3 : (a0_5 != 0) = false := bne_eq_false_iff_eq.2 f2
     clear f1 f2
     (go_wp2_with (first | (go_at_call 27; (with_reducible refine (act_Name.calls k a0_4 _ _ HN.out).mono ?_); rintro e w' ⟨rfl, ⟨nd, rfl⟩⟩)); go_ret; exact ⟨by (obtain ⟨hr⟩ := HRR; subst hr; rfl), (pw_below_drewN HB.out _)⟩)
    ·rw [if_pos (bne_iff_ne.2 f2)] at d0
     have HRR := Aside0.mk d0.symm; clear d0
     have f3 : (a0_5 != 0) = true := bne_iff_ne.2 f2
     clear f1 f2
     (go_wp2_with (first | (go_at_call 27; (with_reducible refine (act_Name.calls k a0_4 _ _ HN.out).mono ?_); rintro e w' ⟨rfl, ⟨nd, rfl⟩⟩)); go_ret; exact ⟨by (obtain ⟨hr⟩ := HRR; subst hr; rfl), (pw_below_drewN HB.out _)⟩)
 have e1b : (a0_0 == 1) = false := beq_eq_false_iff_ne.2 e1
 rw [show note_Check.c2 a0_0 nm a0_4 = (nm || a0_4.toList != []) from if_neg e1] at d0
 cases nm with
 | true =>
  rw [if_pos (by simp)] at d0
  have HRR := Aside0.mk d0.symm; clear d0
  clear c1 c2 e1
  (go_wp2_with (first | (go_at_call 27; (with_reducible refine (act_Name.calls k a0_4 _ _ HN.out).mono ?_); rintro e w' ⟨rfl, ⟨nd, rfl⟩⟩)); go_ret; exact ⟨by (obtain ⟨hr⟩ := HRR; subst hr; rfl), (pw_below_drewN HB.out _)⟩)
 | false =>
 by_cases s1 : a0_4.toList = []
 case neg =>
  rw [if_pos (by simp [s1])] at d0
  have HRR := Aside0.mk d0.symm; clear d0
  have s2 : (a0_4.toList == []) = false := beq_eq_false_iff_ne.2 s1
  have s3 : (a0_4.toList != []) = true := bne_iff_ne.2 s1
  have s4 : a0_4.toList.isEmpty = false := by simpa using s1
  clear c1 c2 e1
  (go_wp2_with (first | (go_at_call 27; (with_reducible refine (act_Name.calls k a0_4 _ _ HN.out).mono ?_); rintro e w' ⟨rfl, ⟨nd, rfl⟩⟩)); go_ret; exact ⟨by (obtain ⟨hr⟩ := HRR; subst hr; rfl), (pw_below_drewN HB.out _)⟩)
 have s2 : (a0_4.toList == []) = true := beq_iff_eq.2 s1
 have s3 : (a0_4.toList != []) = false := bne_eq_false_iff_eq.2 s1
 have s4 : a0_4.toList.isEmpty = true := by simpa using s1
 rw [if_neg (by simp [s1])] at d0
 by_cases e6 : a0_0 = 6
 ·have e6b : (a0_0 == 6) = true := beq_iff_eq.2 e6
  rw [show note_Check.c3 a0_0 a0_5 = !(decide (1 ≤ a0_5) && decide (a0_5 ≤ 9)) from if_pos e6] at d0
  clear c1 c2 e1 e6
  by_cases f1 : 1 ≤ a0_5
  ·have f1b := decide_eq_true f1
   by_cases f2 : a0_5 ≤ 9
   ·have f2b := decide_eq_true f2
    rw [if_neg (by simp [f1, f2])] at d0
    have HRR := Aside0.mk d0.symm; clear d0
    (go_wp2_with (first | (go_at_call 27; (with_reducible refine (act_Name.calls k a0_4 _ _ HN.out).mono ?_); rintro e w' ⟨rfl, ⟨nd, rfl⟩⟩)); go_ret; exact ⟨by (obtain ⟨hr⟩ := HRR; subst hr; rfl), (pw_below_drewN HB.out _)⟩)
   ·have f2b := decide_eq_false f2
    rw [if_pos (by simp [f1, f2])] at d0
    have HRR := Aside0.mk d0.symm; clear d0
    (go_wp2_with (first | (go_at_call 27; (with_reducible refine (act_Name.calls k a0_4 _ _ HN.out).mono ?_); rintro e w' ⟨rfl, ⟨nd, rfl⟩⟩)); go_ret; exact ⟨by (obtain ⟨hr⟩ := HRR; subst hr; rfl), (pw_below_drewN HB.out _)⟩)
  ·have f1b := decide_eq_false f1
   rw [if_pos (by simp [f1])] at d0
   have HRR := Aside0.mk d0.symm; clear d0
   (go_wp2_with (first | (go_at_call 27; (with_reducible refine (act_Name.calls k a0_4 _ _ HN.out).mono ?_); rintro e w' ⟨rfl, ⟨nd, rfl⟩⟩)); go_ret; exact ⟨by (obtain ⟨hr⟩ := HRR; subst hr; rfl), (pw_below_drewN HB.out _)⟩)
 ·have e6b : (a0_0 == 6) = false := beq_eq_false_iff_ne.2 e6
  rw [show note_Check.c3 a0_0 a0_5 = (a0_5 != 0) from if_neg e6] at d0
  clear c1 c2 e1 e6
  by_cases f1 : 1 ≤ a0_5
  ·rw [if_pos (bne_iff_ne.2 (by omega))] at d0
   have HRR := Aside0.mk d0.symm; clear d0
   have f1b := decide_eq_true f1
   have f3 : (a0_5 != 0) = true := bne_iff_ne.2 (by omega)
   by_cases f2 : a0_5 ≤ 9
   ·have f2b := decide_eq_true f2
    (go_wp2_with (first | (go_at_call 27; (with_reducible refine (act_Name.calls k a0_4 _ _ HN.out).mono ?_); rintro e w' ⟨rfl, ⟨nd, rfl⟩⟩)); go_ret; exact ⟨by (obtain ⟨hr⟩ := HRR; subst hr; rfl), (pw_below_drewN HB.out _)⟩)
   ·have f2b := decide_eq_false f2
    (go_wp2_with (first | (go_at_call 27; (with_reducible refine (act_Name.calls k a0_4 _ _ HN.out).mono ?_); rintro e w' ⟨rfl, ⟨nd, rfl⟩⟩)); go_ret; exact ⟨by (obtain ⟨hr⟩ := HRR; subst hr; rfl), (pw_below_drewN HB.out _)⟩)
  ·have f1b := decide_eq_false f1
   by_cases f2 : a0_5 = 0
   ·rw [if_neg (by simp [f2])] at d0
    have HRR := Aside0.mk d0.symm; clear d0
    have f3 : (a0_5 != 0) = false := bne_eq_false_iff_eq.2 f2
    clear f1 f2
    (go_wp2_with (first | (go_at_call 27; (with_reducible refine (act_Name.calls k a0_4 _ _ HN.out).mono ?_); rintro e w' ⟨rfl, ⟨nd, rfl⟩⟩)); go_ret; exact ⟨by (obtain ⟨hr⟩ := HRR; subst hr; rfl), (pw_below_drewN HB.out _)⟩)
   ·rw [if_pos (bne_iff_ne.2 f2)] at d0
    have HRR := Aside0.mk d0.symm; clear d0
    have f3 : (a0_5 != 0) = true := bne_iff_ne.2 f2
    clear f1 f2
    (go_wp2_with (first | (go_at_call 27; (with_reducible refine (act_Name.calls k a0_4 _ _ HN.out).mono ?_); rintro e w' ⟨rfl, ⟨nd, rfl⟩⟩)); go_ret; exact ⟨by (obtain ⟨hr⟩ := HRR; subst hr; rfl), (pw_below_drewN HB.out _)⟩)

/-! ### ident_Org: function 19 -/
def ident_Org.f (k : Nat) (a0_0 : Int) (a0_1 : Int) (l0_2 : List (S50)) : Option (Int) := (ident_Check.f a0_0 a0_1 l0_2).bind fun t123 => (if t123 = 0 then ((ident_path.f k a0_0 a0_1 l0_2).bind fun t124 => (if 0 ≤ (wrap64 ((t124.length : Int) - 1)) then (if (wrap64 ((t124.length : Int) - 1)) < (t124.length : Int) then (some (rd t124 (wrap64 ((t124.length : Int) - 1)))) else (none)) else (none))) else (some (-1)))
theorem ident_Org.mono : ∀ a0 a1 a2 k, LeO (ident_Org.f k a0 a1 a2) (ident_Org.f (k + 1) a0 a1 a2) := by
 intro a0 a1 a2 k
 unfold ident_Org.f
 repeat' first
   | (with_reducible exact ident_path.mono _ _ _ _)
   | (with_reducible exact LeO.refl _)
   | (with_reducible exact LeO.none _)
   | (with_reducible refine LeO.ite ?_ ?_)
   | (with_reducible refine LeO.bind ?_ (fun _ => ?_))
   | exact ident_path.mono _ _ _ _
   | exact LeO.none _
   | refine LeO.ite ?_ ?_
   | refine LeO.bind ?_ (fun _ => ?_)
set_option maxHeartbeats 8000000 in
set_option maxRecDepth 100000 in
theorem ident_Org.calls (k : Nat) (a0_0 : Int) (a0_1 : Int) (A0_2 : Option Addr) (c0_2 : Nat) (l0_2 : List (S50)) (r : Int) (w : World) (hr0_2 : Kd.C k50 w A0_2 l0_2.length l0_2) (hc0_2 : l0_2.length ≤ c0_2) (h : ident_Org.f k a0_0 a0_1 l0_2 = some r) :
  Calls Tryd.prog 19 #[.agg #[.int .i64 a0_0, .int .i64 a0_1, .slice A0_2 l0_2.length c0_2]] w fun e w' => e = .returned (.int .i64 r) ∧ Below w.heap.size w w' := by
 have hu24 := Tryd.underlying24
 have HR0_2 := Aside0.mk hr0_2
 have HC0_2 := Aside0.mk hc0_2
 clear hr0_2 hc0_2
 have HB := Aside0.mk (Below.refl w.heap.size w)
 have H : ((ident_Check.f a0_0 a0_1 l0_2).bind fun t123 => (if t123 = 0 then ((ident_path.f k a0_0 a0_1 l0_2).bind fun t124 => (if 0 ≤ (wrap64 ((t124.length : Int) - 1)) then (if (wrap64 ((t124.length : Int) - 1)) < (t124.length : Int) then (some (rd t124 (wrap64 ((t124.length : Int) - 1)))) else (none)) else (none))) else (some (-1)))) = some r := h
 clear h
 obtain ⟨t123, A20, H⟩ := Option.bind_eq_some_iff.mp H
 try dsimp only at H
 have A2 := Aside0.mk A20
 clear A20
 by_cases c3 : t123 = 0
 ·rw [if_pos c3] at H
  have c3b0 : (t123 == 0) = true := beq_iff_eq.mpr c3
  have c3b1 : (t123 != 0) = false := bne_eq_false_iff_eq.mpr c3
  clear c3
  obtain ⟨t124, A40, H⟩ := Option.bind_eq_some_iff.mp H
  try dsimp only at H
  have A4 := Aside0.mk A40
  clear A40
  obtain ⟨ji5, hji5⟩ : ∃ j_ : Int, (wrap64 ((t124.length : Int) - 1)) = j_ := ⟨_, rfl⟩
  replace H : (if 0 ≤ (ji5) then (if (ji5) < (t124.length : Int) then (some (rd t124 (ji5))) else (none)) else (none)) = some r := by (rw [hji5] at H; exact H)
  (try rw [hji5] at A2)
  (try rw [hji5] at A4)
  have hji5w : (IntKind.i64.wrap ((t124.length : Int) - 1)) = ji5 := (i64_w _).trans hji5
  by_cases c6 : 0 ≤ (ji5)
  ·rw [if_pos c6] at H
   have c6b0 : decide (0 ≤ (ji5)) = true := decide_eq_true c6
   clear c6
   by_cases c7 : (ji5) < (t124.length : Int)
   ·rw [if_pos c7] at H
    have c7b0 : decide ((ji5) < (t124.length : Int)) = true := decide_eq_true c7
    clear c7
    obtain rfl := Option.some.inj H
    go_enter Tryd.func19, Tryd.ntmps19
    go_wp2_with (first | ((with_reducible refine gate_dst (N := 1) rfl ?_); refine box_event ?hg (N := 1) ?hd (cs := #[.int .i64 a0_0, .int .i64 a0_1, .slice A0_2 l0_2.length c0_2]) (t := 24) ?hr ?_; (case hd => rfl); (case hg => rfl); (case hr => (go_simp; done)); intro gb122 hg w8 hbox hb; have BK122 := Aside0.mk (hbox); have GW122 := Aside0.mk ((by rw [hg]; exact (below_size (HB.out)) : w.heap.size ≤ gb122)); have GE122 := Aside0.mk ((by rw [hg]; exact (below_size (HB.out)) : w.heap.size ≤ gb122)); replace HB := Aside0.mk (below_step (HB.out) hb); clear hb hbox hg; obtain ⟨hcz9_0, hcz9_1, hcz9_2⟩ := bc3 BK122.out; obtain ⟨hfz9_0, hfz9_1, hfz9_2⟩ := bf3 BK122.out) | ((with_reducible refine gate_callee (f := 39) rfl ?_); refine goesL_ (some 5) rfl rfl Tryd.func39 (by kernel_rfl) rfl #[.agg #[.int .i64 a0_0, .int .i64 a0_1, .slice A0_2 l0_2.length c0_2]] rfl (by (try simp only [List.map_toArray, List.map_cons, List.map_nil]); rfl) ?_; (with_reducible refine (ident_Check.calls a0_0 a0_1 _ _ l0_2 t123 _ ?side1 ?side2 A2.out).mono ?_); (case side1 => exact (Kd.C_below HR0_2.out HB.out)); (case side2 => exact HC0_2.out); rintro e w10 ⟨rfl, hb⟩; refine ⟨_, rfl, ?_⟩; replace BK122 := Aside0.mk (blk_below BK122.out hb); replace HB := Aside0.mk (below_step (HB.out) hb); clear hb; obtain ⟨hcz11_0, hcz11_1, hcz11_2⟩ := bc3 BK122.out; obtain ⟨hfz11_0, hfz11_1, hfz11_2⟩ := bf3 BK122.out) | ((with_reducible refine gate_callee (f := 40) rfl ?_); refine goesL_ (some 8) rfl rfl Tryd.func40 (by kernel_rfl) rfl #[.agg #[.int .i64 a0_0, .int .i64 a0_1, .slice A0_2 l0_2.length c0_2]] rfl (by (try simp only [List.map_toArray, List.map_cons, List.map_nil]); rfl) ?_; (with_reducible refine (ident_path.calls k a0_0 a0_1 _ _ l0_2 t124 _ ?side1 ?side2 A4.out).mono ?_); (case side1 => exact (Kd.C_below HR0_2.out HB.out)); (case side2 => exact HC0_2.out); rintro e w12 ⟨v125, rfl, ho0, hb⟩; refine ⟨_, rfl, ?_⟩; have HO126 := Aside0.mk (Kd.R_lower ho0 (below_size (HB.out))); replace BK122 := Aside0.mk (blk_below BK122.out hb); replace HB := Aside0.mk (below_step (HB.out) hb); clear hb ho0; obtain ⟨Ao13, co13, eo13⟩ := Kd.R_slice HO126.out; subst eo13; have p127 : 0 ≤ ((ji5) : Int) := of_decide_eq_true (by (with_reducible assumption)); have q127 : (ji5) < (t124.length : Int) := of_decide_eq_true (by (with_reducible assumption)); obtain ⟨ad127, e127, hx127_0⟩ := Kd.at_int (Kd.R_reads' HO126.out).2.2 (ji5) p127 q127; cases e127; replace p127 := eq_true p127; replace q127 := eq_true q127))
    go_ret
    exact ⟨by first | rfl | (simp [errW_none, errW_some] <;> rfl) | (simp only [← hji5]; first | rfl | (simp [errW_none, errW_some] <;> rfl)) | (simp [*, errW_none, errW_some] <;> rfl), HB.out⟩
   ·rw [if_neg c7] at H
    exact absurd H (by simp)
  ·rw [if_neg c6] at H
   exact absurd H (by simp)
 ·rw [if_neg c3] at H
  have c3b0 : (t123 == 0) = false := beq_eq_false_iff_ne.mpr c3
  have c3b1 : (t123 != 0) = true := bne_iff_ne.mpr c3
  obtain rfl := Option.some.inj H
  go_enter Tryd.func19, Tryd.ntmps19
  go_wp2_with (first | ((with_reducible refine gate_dst (N := 1) rfl ?_); refine box_event ?hg (N := 1) ?hd (cs := #[.int .i64 a0_0, .int .i64 a0_1, .slice A0_2 l0_2.length c0_2]) (t := 24) ?hr ?_; (case hd => rfl); (case hg => rfl); (case hr => (go_simp; done)); intro gb122 hg w14 hbox hb; have BK122 := Aside0.mk (hbox); have GW122 := Aside0.mk ((by rw [hg]; exact (below_size (HB.out)) : w.heap.size ≤ gb122)); have GE122 := Aside0.mk ((by rw [hg]; exact (below_size (HB.out)) : w.heap.size ≤ gb122)); replace HB := Aside0.mk (below_step (HB.out) hb); clear hb hbox hg; obtain ⟨hcz15_0, hcz15_1, hcz15_2⟩ := bc3 BK122.out; obtain ⟨hfz15_0, hfz15_1, hfz15_2⟩ := bf3 BK122.out) | ((with_reducible refine gate_callee (f := 39) rfl ?_); refine goesL_ (some 5) rfl rfl Tryd.func39 (by kernel_rfl) rfl #[.agg #[.int .i64 a0_0, .int .i64 a0_1, .slice A0_2 l0_2.length c0_2]] rfl (by (try simp only [List.map_toArray, List.map_cons, List.map_nil]); rfl) ?_; (with_reducible refine (ident_Check.calls a0_0 a0_1 _ _ l0_2 t123 _ ?side1 ?side2 A2.out).mono ?_); (case side1 => exact (Kd.C_below HR0_2.out HB.out)); (case side2 => exact HC0_2.out); rintro e w16 ⟨rfl, hb⟩; refine ⟨_, rfl, ?_⟩; replace BK122 := Aside0.mk (blk_below BK122.out hb); replace HB := Aside0.mk (below_step (HB.out) hb); clear hb))
  go_ret
  exact ⟨by rfl, HB.out⟩

/-! ### note_Ends: function 8 -/
def note_Ends.f (k : Nat) (a0_0 : Int) (a0_1 : Int) (a0_2 : Int) (l0_3 : List (S50)) (a0_4 : ByteArray) (a0_5 : Int) : Option (Int × Int) := (note_Check.f k a0_0 a0_1 a0_2 l0_3 a0_4 a0_5).bind fun t129 => (if t129 = 0 then ((ident_Parent.f a0_1 a0_2 l0_3).bind fun bt130 => (if a0_0 ≤ 4 then ((ident_Org.f k bt130.1 bt130.2.1 bt130.2.2.1).bind fun t138 => ((ident_Org.f k a0_1 a0_2 l0_3).bind fun t139 => (some (t138, t139)))) else ((ident_Org.f k a0_1 a0_2 l0_3).bind fun t140 => ((ident_Org.f k bt130.1 bt130.2.1 bt130.2.2.1).bind fun t141 => (some (t140, t141)))))) else (some ((-1), (-1))))
theorem note_Ends.mono : ∀ a0 a1 a2 a3 a4 a5 k, LeO (note_Ends.f k a0 a1 a2 a3 a4 a5) (note_Ends.f (k + 1) a0 a1 a2 a3 a4 a5) := by
 intro a0 a1 a2 a3 a4 a5 k
 unfold note_Ends.f
 repeat' first
   | (with_reducible exact ident_Org.mono _ _ _ _)
   | (with_reducible exact note_Check.mono _ _ _ _ _ _ _)
   | (with_reducible exact LeO.refl _)
   | (with_reducible exact LeO.none _)
   | (with_reducible refine LeO.ite ?_ ?_)
   | (with_reducible refine LeO.bind ?_ (fun _ => ?_))
   | exact ident_Org.mono _ _ _ _
   | exact note_Check.mono _ _ _ _ _ _ _
   | exact LeO.none _
   | refine LeO.ite ?_ ?_
   | refine LeO.bind ?_ (fun _ => ?_)
set_option maxHeartbeats 8000000 in
set_option maxRecDepth 100000 in
theorem note_Ends.calls (k : Nat) (a0_0 : Int) (a0_1 : Int) (a0_2 : Int) (A0_3 : Option Addr) (c0_3 : Nat) (l0_3 : List (S50)) (a0_4 : ByteArray) (a0_5 : Int) (r1 : Int) (r2 : Int) (w : World) (hr0_3 : Kd.C k50 w A0_3 l0_3.length l0_3) (hc0_3 : l0_3.length ≤ c0_3) (h : note_Ends.f k a0_0 a0_1 a0_2 l0_3 a0_4 a0_5 = some (r1, r2)) :
  Calls Tryd.prog 8 #[.agg #[.int .i64 a0_0, .int .i64 a0_1, .int .i64 a0_2, .slice A0_3 l0_3.length c0_3, .string a0_4, .int .i64 a0_5]] w fun e w' => e = .returned (.tuple #[.int .i64 r1, .int .i64 r2]) ∧ Below w.heap.size w w' := by
 have hu26 := Tryd.underlying26
 have hu24 := Tryd.underlying24
 have HR0_3 := Aside0.mk hr0_3
 have HC0_3 := Aside0.mk hc0_3
 clear hr0_3 hc0_3
 have HB := Aside0.mk (Below.refl w.heap.size w)
 have H : ((note_Check.f k a0_0 a0_1 a0_2 l0_3 a0_4 a0_5).bind fun t129 => (if t129 = 0 then ((ident_Parent.f a0_1 a0_2 l0_3).bind fun bt130 => (if a0_0 ≤ 4 then ((ident_Org.f k bt130.1 bt130.2.1 bt130.2.2.1).bind fun t138 => ((ident_Org.f k a0_1 a0_2 l0_3).bind fun t139 => (some (t138, t139)))) else ((ident_Org.f k a0_1 a0_2 l0_3).bind fun t140 => ((ident_Org.f k bt130.1 bt130.2.1 bt130.2.2.1).bind fun t141 => (some (t140, t141)))))) else (some ((-1), (-1))))) = some (r1, r2) := h
 clear h
 obtain ⟨t129, A20, H⟩ := Option.bind_eq_some_iff.mp H
 try dsimp only at H
 have A2 := Aside0.mk A20
 clear A20
 by_cases c3 : t129 = 0
 ·rw [if_pos c3] at H
  have c3b0 : (t129 == 0) = true := beq_iff_eq.mpr c3
  have c3b1 : (t129 != 0) = false := bne_eq_false_iff_eq.mpr c3
  clear c3
  obtain ⟨⟨t130, t131, t132, t135, t136⟩, A40, H⟩ := Option.bind_eq_some_iff.mp H
  try dsimp only at H
  have A4 := Aside0.mk A40
  clear A40
  by_cases c5 : a0_0 ≤ 4
  ·rw [if_pos c5] at H
   have c5b0 : decide (a0_0 ≤ 4) = true := decide_eq_true c5
   clear c5
   obtain ⟨t138, A60, H⟩ := Option.bind_eq_some_iff.mp H
   try dsimp only at H
   have A6 := Aside0.mk A60
   clear A60
   obtain ⟨t139, A70, H⟩ := Option.bind_eq_some_iff.mp H
   try dsimp only at H
   have A7 := Aside0.mk A70
   clear A70
   simp only [Option.some.injEq, Prod.mk.injEq] at H
   obtain ⟨rfl, rfl⟩ := H
   go_enter Tryd.func8, Tryd.ntmps8
   try go_wp2_with (first | ((with_reducible refine gate_dst (N := 1) rfl ?_); refine box_event ?hg (N := 1) ?hd (cs := #[.int .i64 a0_0, .int .i64 a0_1, .int .i64 a0_2, .slice A0_3 l0_3.length c0_3, .string a0_4, .int .i64 a0_5]) (t := 26) ?hr ?_; (case hd => rfl); (case hg => rfl); (case hr => (go_simp; done)); intro gb128 hg w8 hbox hb; have BK128 := Aside0.mk (hbox); have GW128 := Aside0.mk ((by rw [hg]; exact (below_size (HB.out)) : w.heap.size ≤ gb128)); have GE128 := Aside0.mk ((by rw [hg]; exact (below_size (HB.out)) : w.heap.size ≤ gb128)); replace HB := Aside0.mk (below_step (HB.out) hb); clear hb hbox hg; obtain ⟨hcz9_0, hcz9_1, hcz9_2, hcz9_3, hcz9_4, hcz9_5⟩ := bc6 BK128.out; obtain ⟨hfz9_0, hfz9_1, hfz9_2, hfz9_3, hfz9_4, hfz9_5⟩ := bf6 BK128.out) | ((with_reducible refine gate_callee (f := 12) rfl ?_); refine goesL_ (some 8) rfl rfl Tryd.func12 (by kernel_rfl) rfl #[.agg #[.int .i64 a0_0, .int .i64 a0_1, .int .i64 a0_2, .slice A0_3 l0_3.length c0_3, .string a0_4, .int .i64 a0_5]] rfl (by (try simp only [List.map_toArray, List.map_cons, List.map_nil]); rfl) ?_; (with_reducible refine (note_Check.calls k a0_0 a0_1 a0_2 _ _ l0_3 a0_4 a0_5 t129 _ ?side1 ?side2 A2.out).mono ?_); (case side1 => exact (Kd.C_below HR0_3.out HB.out)); (case side2 => exact HC0_3.out); rintro e w10 ⟨rfl, hb⟩; refine ⟨_, rfl, ?_⟩; replace BK128 := Aside0.mk (blk_below BK128.out hb); replace HB := Aside0.mk (below_step (HB.out) hb); clear hb; obtain ⟨hcz11_0, hcz11_1, hcz11_2, hcz11_3, hcz11_4, hcz11_5⟩ := bc6 BK128.out; obtain ⟨hfz11_0, hfz11_1, hfz11_2, hfz11_3, hfz11_4, hfz11_5⟩ := bf6 BK128.out) | ((with_reducible refine gate_callee (f := 20) rfl ?_); refine goesL_ (some 13) rfl rfl Tryd.func20 (by kernel_rfl) rfl #[.agg #[.int .i64 a0_1, .int .i64 a0_2, .slice A0_3 l0_3.length c0_3]] rfl (by (try simp only [List.map_toArray, List.map_cons, List.map_nil]); rfl) ?_; (with_reducible refine (ident_Parent.calls a0_1 a0_2 _ _ l0_3 t130 t131 t132 t135 t136 _ ?side1 ?side2 A4.out).mono ?_); (case side1 => exact (Kd.C_below HR0_3.out HB.out)); (case side2 => exact HC0_3.out); rintro e w12 ⟨v133, rfl, ho0, hb⟩; refine ⟨_, rfl, ?_⟩; have HO134 := Aside0.mk (Kd.R_lower ho0 (below_size (HB.out))); replace BK128 := Aside0.mk (blk_below BK128.out hb); replace HB := Aside0.mk (below_step (HB.out) hb); clear hb ho0) | ((with_reducible refine gate_dst (N := 4) rfl ?_); refine box_event ?hg (N := 4) ?hd (cs := #[.int .i64 0, .int .i64 0, .slice none 0 0]) (t := 24) ?hr ?_; (case hd => rfl); (case hg => rfl); (case hr => (go_simp; done)); intro gb137 hg w13 hbox hb; replace HO134 := Aside0.mk (Kd.R_below (by exact HO134.out) hb); have BK137 := Aside0.mk (hbox); have GW137 := Aside0.mk ((by rw [hg]; exact (below_size (HB.out)) : w.heap.size ≤ gb137)); have GE137 := Aside0.mk ((by rw [hg]; exact (below_size (HB.out)) : w.heap.size ≤ gb137)); replace HB := Aside0.mk (below_step (HB.out) hb); have NB128_137 := Aside0.mk ((by rw [hg]; exact Nat.ne_of_lt (blk_lt BK128.out) : gb128 ≠ gb137)); have NB137_128 := Aside0.mk ((by rw [hg]; exact Nat.ne_of_gt (blk_lt BK128.out) : gb137 ≠ gb128)); replace BK128 := Aside0.mk (blk_below BK128.out hb); clear hb hbox hg; have hnb14 := NB137_128.out; have hnc14 := NB128_137.out; obtain ⟨hcz15_0, hcz15_1, hcz15_2⟩ := bc3 BK137.out; obtain ⟨hfz15_0, hfz15_1, hfz15_2⟩ := bf3 BK137.out; obtain ⟨Ao16, co16, eo16⟩ := Kd.R_slice HO134.out; subst eo16; obtain ⟨hcz17_0, hcz17_1, hcz17_2, hcz17_3, hcz17_4, hcz17_5⟩ := bc6 BK128.out; obtain ⟨hfz17_0, hfz17_1, hfz17_2, hfz17_3, hfz17_4, hfz17_5⟩ := bf6 BK128.out))
   have n0_ : Aside0 (Kd.R k50 50 (((w13.setCell ⟨gb137, 0, none⟩ (.int .i64 t130)).setCell ⟨gb137, 1, none⟩ (.int .i64 t131)).setCell ⟨gb137, 2, none⟩ (.slice Ao16 t132.length co16)) w.heap.size (fun _ => True) (.slice Ao16 t132.length co16) t132) := ⟨by exact Kd.R_mono (Kd.R_far (p := ⟨gb137, 2, none⟩) (Kd.R_far (p := ⟨gb137, 1, none⟩) (Kd.R_far (p := ⟨gb137, 0, none⟩) (Kd.R_types HO134.out BK137.out (by decide)) (fun _ hk => hk.2) (.int .i64 t130)) (fun _ hk => hk.2) (.int .i64 t131)) (fun _ hk => hk.2) (.slice Ao16 t132.length co16)) (fun _ hk => trivial)⟩
   have n1_ : Aside0 ((((w13.setCell ⟨gb137, 0, none⟩ (.int .i64 t130)).setCell ⟨gb137, 1, none⟩ (.int .i64 t131)).setCell ⟨gb137, 2, none⟩ (.slice Ao16 t132.length co16)).heap[gb128]? = some (.cells #[.int .i64 a0_0, .int .i64 a0_1, .int .i64 a0_2, .slice A0_3 l0_3.length c0_3, .string a0_4, .int .i64 a0_5] 26 (0, 0))) := ⟨by refine blk_far ?_ NB128_137.out _; refine blk_far ?_ NB128_137.out _; refine blk_far ?_ NB128_137.out _; exact BK128.out⟩
   have n2_ : Aside0 ((((w13.setCell ⟨gb137, 0, none⟩ (.int .i64 t130)).setCell ⟨gb137, 1, none⟩ (.int .i64 t131)).setCell ⟨gb137, 2, none⟩ (.slice Ao16 t132.length co16)).heap[gb137]? = some (.cells #[.int .i64 t130, .int .i64 t131, .slice Ao16 t132.length co16] 24 (0, 0))) := ⟨by refine blk_put (cs := #[.int .i64 t130, .int .i64 t131, .slice none 0 0]) ?_ 2 _ rfl; refine blk_put (cs := #[.int .i64 t130, .int .i64 0, .slice none 0 0]) ?_ 1 _ rfl; refine blk_put (cs := #[.int .i64 0, .int .i64 0, .slice none 0 0]) ?_ 0 _ rfl; exact BK137.out⟩
   have n3_ : Aside0 (Below w.heap.size w (((w13.setCell ⟨gb137, 0, none⟩ (.int .i64 t130)).setCell ⟨gb137, 1, none⟩ (.int .i64 t131)).setCell ⟨gb137, 2, none⟩ (.slice Ao16 t132.length co16))) := ⟨below_set (below_set (below_set HB.out GE137.out) GE137.out) GE137.out⟩
   clear HO134
   clear BK128
   clear BK137
   clear HB
   generalize (((w13.setCell ⟨gb137, 0, none⟩ (.int .i64 t130)).setCell ⟨gb137, 1, none⟩ (.int .i64 t131)).setCell ⟨gb137, 2, none⟩ (.slice Ao16 t132.length co16)) = w18 at n0_ n1_ n2_ n3_ ⊢
   have HO134 := n0_
   have BK128 := n1_
   have BK137 := n2_
   have HB := n3_
   clear n0_ n1_ n2_ n3_
   have n0_ := Aside0.mk (Kd.R_drew HO134.out)
   have n1_ := Aside0.mk (blk_drew BK128.out)
   have n2_ := Aside0.mk (blk_drew BK137.out)
   have n3_ := Aside0.mk (below_drew1 HB.out)
   clear HO134 BK128 BK137 HB
   have HO134 := n0_
   have BK128 := n1_
   have BK137 := n2_
   have HB := n3_
   clear n0_ n1_ n2_ n3_
   refine start_ (n := 7) (S := fun w' => w'.cell? ⟨gb137, 0, none⟩ = some (.int .i64 t130) ∧ w'.cell? ⟨gb137, 1, none⟩ = some (.int .i64 t131) ∧ w'.cell? ⟨gb137, 2, none⟩ = some (.slice Ao16 t132.length co16) ∧ w'.cell? ⟨gb128, 0, none⟩ = some (.int .i64 a0_0) ∧ w'.cell? ⟨gb128, 1, none⟩ = some (.int .i64 a0_1) ∧ w'.cell? ⟨gb128, 2, none⟩ = some (.int .i64 a0_2) ∧ w'.cell? ⟨gb128, 3, none⟩ = some (.slice A0_3 l0_3.length c0_3) ∧ w'.cell? ⟨gb128, 4, none⟩ = some (.string a0_4) ∧ w'.cell? ⟨gb128, 5, none⟩ = some (.int .i64 a0_5)) (ds := []) #[false, false, false, false, false, false, false] (by kernel_rfl) rfl rfl (an3 (bc3 BK137.out) (bc6 BK128.out)) (fun hHeld => ?_)
   generalize w18.drew = w19 at HO134 BK128 BK137 HB hHeld ⊢
   refine pure_ (i := 2) (N := some 22) (v := ?_) (a' := ?_) #[false, false, true, false, false, false, false] rfl rfl (by kernel_rfl) (fun _ _ _ h => h) (Or.inl ⟨by rfl, ?_⟩) ?_ ?_
   rotate_left
   ·intro w'
    go_simp
    with_reducible rfl
   rotate_left
   ·simp only [Act.put, List.setIfInBounds_toArray, List.set_cons_zero, List.set_cons_succ, i64_w, i32_w]
    rfl
   refine take_ (i := 0) (N := some 20) (v := ?_) (a' := ?_) #[true, false, true, false, false, false, false] rfl rfl (by kernel_rfl) (fun _ _ _ h => h) (Or.inl ⟨by rfl, ?_⟩) hHeld ?_ ?_
   rotate_left
   ·rintro w' ⟨s0, s1, s2, s3, s4, s5, s6, s7, s8⟩
    go_simp
    with_reducible rfl
   rotate_left
   ·simp only [Act.put, List.setIfInBounds_toArray, List.set_cons_zero, List.set_cons_succ, i64_w, i32_w]
    rfl
   refine take_ (i := 3) (N := some 23) (v := ?_) (a' := ?_) #[true, false, true, true, false, false, false] rfl rfl (by kernel_rfl) (fun _ _ _ h => h) (Or.inl ⟨by rfl, ?_⟩) hHeld ?_ ?_
   rotate_left
   ·rintro w' ⟨s0, s1, s2, s3, s4, s5, s6, s7, s8⟩
    go_simp
    with_reducible rfl
   rotate_left
   ·simp only [Act.put, List.setIfInBounds_toArray, List.set_cons_zero, List.set_cons_succ, i64_w, i32_w]
    rfl
   refine one_ (i := 1) (N := some 21) #[true, true, true, true, false, false, false] rfl rfl (by kernel_rfl) (by decide) (fun K hK => ?_)
   refine goes_ Tryd.func19 (by kernel_rfl) rfl #[.agg #[.int .i64 t130, .int .i64 t131, .slice Ao16 t132.length co16]] (by rfl) rfl rfl (by (try simp only [List.map_toArray, List.map_cons, List.map_nil]); rfl) ?_
   with_reducible refine (ident_Org.calls k t130 t131 _ _ t132 t138 _ ?side1 ?side2 A6.out).mono ?_
   (case side1 => exact (Kd.R_reads' HO134.out).2.2)
   (case side2 => exact (Kd.R_reads' HO134.out).2.1)
   rintro e w20 ⟨rfl, hb⟩
   refine ⟨_, rfl, ?_⟩
   have n0_ := Aside0.mk (Kd.R_below (by exact HO134.out) hb)
   have n1_ := Aside0.mk (blk_below BK128.out hb)
   have n2_ := Aside0.mk (blk_below BK137.out hb)
   have n3_ := Aside0.mk (below_step (HB.out) hb)
   clear HO134 BK128 BK137 HB
   have HO134 := n0_
   have BK128 := n1_
   have BK137 := n2_
   have HB := n3_
   clear n0_ n1_ n2_ n3_
   clear hb
   refine hK.out _ _ (an3 (bc3 BK137.out) (bc6 BK128.out)) (fun hHeld => ?_)
   clear hK K
   refine norm_ (a' := ?_) ?_ ?_
   rotate_left
   ·show Act.put _ (some 21) _ = _
    simp only [Act.put, List.setIfInBounds_toArray, List.set_cons_zero, List.set_cons_succ, i64_w, i32_w]
    rfl
   refine one_ (i := 4) (N := some 24) #[true, true, true, true, true, false, false] rfl rfl (by kernel_rfl) (by decide) (fun K hK => ?_)
   refine goes_ Tryd.func19 (by kernel_rfl) rfl #[.agg #[.int .i64 a0_1, .int .i64 a0_2, .slice A0_3 l0_3.length c0_3]] (by rfl) rfl rfl (by (try simp only [List.map_toArray, List.map_cons, List.map_nil]); rfl) ?_
   with_reducible refine (ident_Org.calls k a0_1 a0_2 _ _ l0_3 t139 _ ?side1 ?side2 A7.out).mono ?_
   (case side1 => exact (Kd.C_below HR0_3.out HB.out))
   (case side2 => exact HC0_3.out)
   rintro e w21 ⟨rfl, hb⟩
   refine ⟨_, rfl, ?_⟩
   have n0_ := Aside0.mk (Kd.R_below (by exact HO134.out) hb)
   have n1_ := Aside0.mk (blk_below BK128.out hb)
   have n2_ := Aside0.mk (blk_below BK137.out hb)
   have n3_ := Aside0.mk (below_step (HB.out) hb)
   clear HO134 BK128 BK137 HB
   have HO134 := n0_
   have BK128 := n1_
   have BK137 := n2_
   have HB := n3_
   clear n0_ n1_ n2_ n3_
   clear hb
   refine hK.out _ _ (an3 (bc3 BK137.out) (bc6 BK128.out)) (fun hHeld => ?_)
   clear hK K
   refine norm_ (a' := ?_) ?_ ?_
   rotate_left
   ·show Act.put _ (some 24) _ = _
    simp only [Act.put, List.setIfInBounds_toArray, List.set_cons_zero, List.set_cons_succ, i64_w, i32_w]
    rfl
   refine pure_ (i := 5) (N := some 2) (v := ?_) (a' := ?_) #[true, true, true, true, true, true, false] rfl rfl (by kernel_rfl) (fun _ _ _ h => h) (Or.inl ⟨by rfl, ?_⟩) ?_ ?_
   rotate_left
   ·intro w'
    go_simp
    with_reducible rfl
   rotate_left
   ·simp only [Act.put, List.setIfInBounds_toArray, List.set_cons_zero, List.set_cons_succ, i64_w, i32_w]
    rfl
   refine pure_ (i := 6) (N := some 3) (v := ?_) (a' := ?_) #[true, true, true, true, true, true, true] rfl rfl (by kernel_rfl) (fun _ _ _ h => h) (Or.inl ⟨by rfl, ?_⟩) ?_ ?_
   rotate_left
   ·intro w'
    go_simp
    with_reducible rfl
   rotate_left
   ·simp only [Act.put, List.setIfInBounds_toArray, List.set_cons_zero, List.set_cons_succ, i64_w, i32_w]
    rfl
   refine done_ (by kernel_rfl) ?_
   try go_wp2
   go_ret2
   exact ⟨by rfl, HB.out⟩
  ·rw [if_neg c5] at H
   have c5b0 : decide (a0_0 ≤ 4) = false := decide_eq_false c5
   clear c5
   obtain ⟨t140, A220, H⟩ := Option.bind_eq_some_iff.mp H
   try dsimp only at H
   have A22 := Aside0.mk A220
   clear A220
   obtain ⟨t141, A230, H⟩ := Option.bind_eq_some_iff.mp H
   try dsimp only at H
   have A23 := Aside0.mk A230
   clear A230
   simp only [Option.some.injEq, Prod.mk.injEq] at H
   obtain ⟨rfl, rfl⟩ := H
   go_enter Tryd.func8, Tryd.ntmps8
   try go_wp2_with (first | ((with_reducible refine gate_dst (N := 1) rfl ?_); refine box_event ?hg (N := 1) ?hd (cs := #[.int .i64 a0_0, .int .i64 a0_1, .int .i64 a0_2, .slice A0_3 l0_3.length c0_3, .string a0_4, .int .i64 a0_5]) (t := 26) ?hr ?_; (case hd => rfl); (case hg => rfl); (case hr => (go_simp; done)); intro gb128 hg w24 hbox hb; have BK128 := Aside0.mk (hbox); have GW128 := Aside0.mk ((by rw [hg]; exact (below_size (HB.out)) : w.heap.size ≤ gb128)); have GE128 := Aside0.mk ((by rw [hg]; exact (below_size (HB.out)) : w.heap.size ≤ gb128)); replace HB := Aside0.mk (below_step (HB.out) hb); clear hb hbox hg; obtain ⟨hcz25_0, hcz25_1, hcz25_2, hcz25_3, hcz25_4, hcz25_5⟩ := bc6 BK128.out; obtain ⟨hfz25_0, hfz25_1, hfz25_2, hfz25_3, hfz25_4, hfz25_5⟩ := bf6 BK128.out) | ((with_reducible refine gate_callee (f := 12) rfl ?_); refine goesL_ (some 8) rfl rfl Tryd.func12 (by kernel_rfl) rfl #[.agg #[.int .i64 a0_0, .int .i64 a0_1, .int .i64 a0_2, .slice A0_3 l0_3.length c0_3, .string a0_4, .int .i64 a0_5]] rfl (by (try simp only [List.map_toArray, List.map_cons, List.map_nil]); rfl) ?_; (with_reducible refine (note_Check.calls k a0_0 a0_1 a0_2 _ _ l0_3 a0_4 a0_5 t129 _ ?side1 ?side2 A2.out).mono ?_); (case side1 => exact (Kd.C_below HR0_3.out HB.out)); (case side2 => exact HC0_3.out); rintro e w26 ⟨rfl, hb⟩; refine ⟨_, rfl, ?_⟩; replace BK128 := Aside0.mk (blk_below BK128.out hb); replace HB := Aside0.mk (below_step (HB.out) hb); clear hb; obtain ⟨hcz27_0, hcz27_1, hcz27_2, hcz27_3, hcz27_4, hcz27_5⟩ := bc6 BK128.out; obtain ⟨hfz27_0, hfz27_1, hfz27_2, hfz27_3, hfz27_4, hfz27_5⟩ := bf6 BK128.out) | ((with_reducible refine gate_callee (f := 20) rfl ?_); refine goesL_ (some 13) rfl rfl Tryd.func20 (by kernel_rfl) rfl #[.agg #[.int .i64 a0_1, .int .i64 a0_2, .slice A0_3 l0_3.length c0_3]] rfl (by (try simp only [List.map_toArray, List.map_cons, List.map_nil]); rfl) ?_; (with_reducible refine (ident_Parent.calls a0_1 a0_2 _ _ l0_3 t130 t131 t132 t135 t136 _ ?side1 ?side2 A4.out).mono ?_); (case side1 => exact (Kd.C_below HR0_3.out HB.out)); (case side2 => exact HC0_3.out); rintro e w28 ⟨v133, rfl, ho0, hb⟩; refine ⟨_, rfl, ?_⟩; have HO134 := Aside0.mk (Kd.R_lower ho0 (below_size (HB.out))); replace BK128 := Aside0.mk (blk_below BK128.out hb); replace HB := Aside0.mk (below_step (HB.out) hb); clear hb ho0) | ((with_reducible refine gate_dst (N := 4) rfl ?_); refine box_event ?hg (N := 4) ?hd (cs := #[.int .i64 0, .int .i64 0, .slice none 0 0]) (t := 24) ?hr ?_; (case hd => rfl); (case hg => rfl); (case hr => (go_simp; done)); intro gb137 hg w29 hbox hb; replace HO134 := Aside0.mk (Kd.R_below (by exact HO134.out) hb); have BK137 := Aside0.mk (hbox); have GW137 := Aside0.mk ((by rw [hg]; exact (below_size (HB.out)) : w.heap.size ≤ gb137)); have GE137 := Aside0.mk ((by rw [hg]; exact (below_size (HB.out)) : w.heap.size ≤ gb137)); replace HB := Aside0.mk (below_step (HB.out) hb); have NB128_137 := Aside0.mk ((by rw [hg]; exact Nat.ne_of_lt (blk_lt BK128.out) : gb128 ≠ gb137)); have NB137_128 := Aside0.mk ((by rw [hg]; exact Nat.ne_of_gt (blk_lt BK128.out) : gb137 ≠ gb128)); replace BK128 := Aside0.mk (blk_below BK128.out hb); clear hb hbox hg; have hnb30 := NB137_128.out; have hnc30 := NB128_137.out; obtain ⟨hcz31_0, hcz31_1, hcz31_2⟩ := bc3 BK137.out; obtain ⟨hfz31_0, hfz31_1, hfz31_2⟩ := bf3 BK137.out; obtain ⟨Ao32, co32, eo32⟩ := Kd.R_slice HO134.out; subst eo32; obtain ⟨hcz33_0, hcz33_1, hcz33_2, hcz33_3, hcz33_4, hcz33_5⟩ := bc6 BK128.out; obtain ⟨hfz33_0, hfz33_1, hfz33_2, hfz33_3, hfz33_4, hfz33_5⟩ := bf6 BK128.out))
   have n0_ : Aside0 (Kd.R k50 50 (((w29.setCell ⟨gb137, 0, none⟩ (.int .i64 t130)).setCell ⟨gb137, 1, none⟩ (.int .i64 t131)).setCell ⟨gb137, 2, none⟩ (.slice Ao32 t132.length co32)) w.heap.size (fun _ => True) (.slice Ao32 t132.length co32) t132) := ⟨by exact Kd.R_mono (Kd.R_far (p := ⟨gb137, 2, none⟩) (Kd.R_far (p := ⟨gb137, 1, none⟩) (Kd.R_far (p := ⟨gb137, 0, none⟩) (Kd.R_types HO134.out BK137.out (by decide)) (fun _ hk => hk.2) (.int .i64 t130)) (fun _ hk => hk.2) (.int .i64 t131)) (fun _ hk => hk.2) (.slice Ao32 t132.length co32)) (fun _ hk => trivial)⟩
   have n1_ : Aside0 ((((w29.setCell ⟨gb137, 0, none⟩ (.int .i64 t130)).setCell ⟨gb137, 1, none⟩ (.int .i64 t131)).setCell ⟨gb137, 2, none⟩ (.slice Ao32 t132.length co32)).heap[gb128]? = some (.cells #[.int .i64 a0_0, .int .i64 a0_1, .int .i64 a0_2, .slice A0_3 l0_3.length c0_3, .string a0_4, .int .i64 a0_5] 26 (0, 0))) := ⟨by refine blk_far ?_ NB128_137.out _; refine blk_far ?_ NB128_137.out _; refine blk_far ?_ NB128_137.out _; exact BK128.out⟩
   have n2_ : Aside0 ((((w29.setCell ⟨gb137, 0, none⟩ (.int .i64 t130)).setCell ⟨gb137, 1, none⟩ (.int .i64 t131)).setCell ⟨gb137, 2, none⟩ (.slice Ao32 t132.length co32)).heap[gb137]? = some (.cells #[.int .i64 t130, .int .i64 t131, .slice Ao32 t132.length co32] 24 (0, 0))) := ⟨by refine blk_put (cs := #[.int .i64 t130, .int .i64 t131, .slice none 0 0]) ?_ 2 _ rfl; refine blk_put (cs := #[.int .i64 t130, .int .i64 0, .slice none 0 0]) ?_ 1 _ rfl; refine blk_put (cs := #[.int .i64 0, .int .i64 0, .slice none 0 0]) ?_ 0 _ rfl; exact BK137.out⟩
   have n3_ : Aside0 (Below w.heap.size w (((w29.setCell ⟨gb137, 0, none⟩ (.int .i64 t130)).setCell ⟨gb137, 1, none⟩ (.int .i64 t131)).setCell ⟨gb137, 2, none⟩ (.slice Ao32 t132.length co32))) := ⟨below_set (below_set (below_set HB.out GE137.out) GE137.out) GE137.out⟩
   clear HO134
   clear BK128
   clear BK137
   clear HB
   generalize (((w29.setCell ⟨gb137, 0, none⟩ (.int .i64 t130)).setCell ⟨gb137, 1, none⟩ (.int .i64 t131)).setCell ⟨gb137, 2, none⟩ (.slice Ao32 t132.length co32)) = w34 at n0_ n1_ n2_ n3_ ⊢
   have HO134 := n0_
   have BK128 := n1_
   have BK137 := n2_
   have HB := n3_
   clear n0_ n1_ n2_ n3_
   have n0_ := Aside0.mk (Kd.R_drew HO134.out)
   have n1_ := Aside0.mk (blk_drew BK128.out)
   have n2_ := Aside0.mk (blk_drew BK137.out)
   have n3_ := Aside0.mk (below_drew1 HB.out)
   clear HO134 BK128 BK137 HB
   have HO134 := n0_
   have BK128 := n1_
   have BK137 := n2_
   have HB := n3_
   clear n0_ n1_ n2_ n3_
   refine start_ (n := 7) (S := fun w' => w'.cell? ⟨gb128, 0, none⟩ = some (.int .i64 a0_0) ∧ w'.cell? ⟨gb128, 1, none⟩ = some (.int .i64 a0_1) ∧ w'.cell? ⟨gb128, 2, none⟩ = some (.int .i64 a0_2) ∧ w'.cell? ⟨gb128, 3, none⟩ = some (.slice A0_3 l0_3.length c0_3) ∧ w'.cell? ⟨gb128, 4, none⟩ = some (.string a0_4) ∧ w'.cell? ⟨gb128, 5, none⟩ = some (.int .i64 a0_5) ∧ w'.cell? ⟨gb137, 0, none⟩ = some (.int .i64 t130) ∧ w'.cell? ⟨gb137, 1, none⟩ = some (.int .i64 t131) ∧ w'.cell? ⟨gb137, 2, none⟩ = some (.slice Ao32 t132.length co32)) (ds := []) #[false, false, false, false, false, false, false] (by kernel_rfl) rfl rfl (an6 (bc6 BK128.out) (bc3 BK137.out)) (fun hHeld => ?_)
   generalize w34.drew = w35 at HO134 BK128 BK137 HB hHeld ⊢
   refine pure_ (i := 0) (N := some 25) (v := ?_) (a' := ?_) #[true, false, false, false, false, false, false] rfl rfl (by kernel_rfl) (fun _ _ _ h => h) (Or.inl ⟨by rfl, ?_⟩) ?_ ?_
   rotate_left
   ·intro w'
    go_simp
    with_reducible rfl
   rotate_left
   ·simp only [Act.put, List.setIfInBounds_toArray, List.set_cons_zero, List.set_cons_succ, i64_w, i32_w]
    rfl
   refine take_ (i := 1) (N := some 26) (v := ?_) (a' := ?_) #[true, true, false, false, false, false, false] rfl rfl (by kernel_rfl) (fun _ _ _ h => h) (Or.inl ⟨by rfl, ?_⟩) hHeld ?_ ?_
   rotate_left
   ·rintro w' ⟨s0, s1, s2, s3, s4, s5, s6, s7, s8⟩
    go_simp
    with_reducible rfl
   rotate_left
   ·simp only [Act.put, List.setIfInBounds_toArray, List.set_cons_zero, List.set_cons_succ, i64_w, i32_w]
    rfl
   refine take_ (i := 3) (N := some 28) (v := ?_) (a' := ?_) #[true, true, false, true, false, false, false] rfl rfl (by kernel_rfl) (fun _ _ _ h => h) (Or.inl ⟨by rfl, ?_⟩) hHeld ?_ ?_
   rotate_left
   ·rintro w' ⟨s0, s1, s2, s3, s4, s5, s6, s7, s8⟩
    go_simp
    with_reducible rfl
   rotate_left
   ·simp only [Act.put, List.setIfInBounds_toArray, List.set_cons_zero, List.set_cons_succ, i64_w, i32_w]
    rfl
   refine one_ (i := 2) (N := some 27) #[true, true, true, true, false, false, false] rfl rfl (by kernel_rfl) (by decide) (fun K hK => ?_)
   refine goes_ Tryd.func19 (by kernel_rfl) rfl #[.agg #[.int .i64 a0_1, .int .i64 a0_2, .slice A0_3 l0_3.length c0_3]] (by rfl) rfl rfl (by (try simp only [List.map_toArray, List.map_cons, List.map_nil]); rfl) ?_
   with_reducible refine (ident_Org.calls k a0_1 a0_2 _ _ l0_3 t140 _ ?side1 ?side2 A22.out).mono ?_
   (case side1 => exact (Kd.C_below HR0_3.out HB.out))
   (case side2 => exact HC0_3.out)
   rintro e w36 ⟨rfl, hb⟩
   refine ⟨_, rfl, ?_⟩
   have n0_ := Aside0.mk (Kd.R_below (by exact HO134.out) hb)
   have n1_ := Aside0.mk (blk_below BK128.out hb)
   have n2_ := Aside0.mk (blk_below BK137.out hb)
   have n3_ := Aside0.mk (below_step (HB.out) hb)
   clear HO134 BK128 BK137 HB
   have HO134 := n0_
   have BK128 := n1_
   have BK137 := n2_
   have HB := n3_
   clear n0_ n1_ n2_ n3_
   clear hb
   refine hK.out _ _ (an6 (bc6 BK128.out) (bc3 BK137.out)) (fun hHeld => ?_)
   clear hK K
   refine norm_ (a' := ?_) ?_ ?_
   rotate_left
   ·show Act.put _ (some 27) _ = _
    simp only [Act.put, List.setIfInBounds_toArray, List.set_cons_zero, List.set_cons_succ, i64_w, i32_w]
    rfl
   refine one_ (i := 4) (N := some 29) #[true, true, true, true, true, false, false] rfl rfl (by kernel_rfl) (by decide) (fun K hK => ?_)
   refine goes_ Tryd.func19 (by kernel_rfl) rfl #[.agg #[.int .i64 t130, .int .i64 t131, .slice Ao32 t132.length co32]] (by rfl) rfl rfl (by (try simp only [List.map_toArray, List.map_cons, List.map_nil]); rfl) ?_
   with_reducible refine (ident_Org.calls k t130 t131 _ _ t132 t141 _ ?side1 ?side2 A23.out).mono ?_
   (case side1 => exact (Kd.R_reads' HO134.out).2.2)
   (case side2 => exact (Kd.R_reads' HO134.out).2.1)
   rintro e w37 ⟨rfl, hb⟩
   refine ⟨_, rfl, ?_⟩
   have n0_ := Aside0.mk (Kd.R_below (by exact HO134.out) hb)
   have n1_ := Aside0.mk (blk_below BK128.out hb)
   have n2_ := Aside0.mk (blk_below BK137.out hb)
   have n3_ := Aside0.mk (below_step (HB.out) hb)
   clear HO134 BK128 BK137 HB
   have HO134 := n0_
   have BK128 := n1_
   have BK137 := n2_
   have HB := n3_
   clear n0_ n1_ n2_ n3_
   clear hb
   refine hK.out _ _ (an6 (bc6 BK128.out) (bc3 BK137.out)) (fun hHeld => ?_)
   clear hK K
   refine norm_ (a' := ?_) ?_ ?_
   rotate_left
   ·show Act.put _ (some 29) _ = _
    simp only [Act.put, List.setIfInBounds_toArray, List.set_cons_zero, List.set_cons_succ, i64_w, i32_w]
    rfl
   refine pure_ (i := 5) (N := some 2) (v := ?_) (a' := ?_) #[true, true, true, true, true, true, false] rfl rfl (by kernel_rfl) (fun _ _ _ h => h) (Or.inl ⟨by rfl, ?_⟩) ?_ ?_
   rotate_left
   ·intro w'
    go_simp
    with_reducible rfl
   rotate_left
   ·simp only [Act.put, List.setIfInBounds_toArray, List.set_cons_zero, List.set_cons_succ, i64_w, i32_w]
    rfl
   refine pure_ (i := 6) (N := some 3) (v := ?_) (a' := ?_) #[true, true, true, true, true, true, true] rfl rfl (by kernel_rfl) (fun _ _ _ h => h) (Or.inl ⟨by rfl, ?_⟩) ?_ ?_
   rotate_left
   ·intro w'
    go_simp
    with_reducible rfl
   rotate_left
   ·simp only [Act.put, List.setIfInBounds_toArray, List.set_cons_zero, List.set_cons_succ, i64_w, i32_w]
    rfl
   refine done_ (by kernel_rfl) ?_
   try go_wp2
   go_ret2
   exact ⟨by rfl, HB.out⟩
 ·rw [if_neg c3] at H
  have c3b0 : (t129 == 0) = false := beq_eq_false_iff_ne.mpr c3
  have c3b1 : (t129 != 0) = true := bne_iff_ne.mpr c3
  simp only [Option.some.injEq, Prod.mk.injEq] at H
  obtain ⟨rfl, rfl⟩ := H
  go_enter Tryd.func8, Tryd.ntmps8
  go_wp2_with (first | ((with_reducible refine gate_dst (N := 1) rfl ?_); refine box_event ?hg (N := 1) ?hd (cs := #[.int .i64 a0_0, .int .i64 a0_1, .int .i64 a0_2, .slice A0_3 l0_3.length c0_3, .string a0_4, .int .i64 a0_5]) (t := 26) ?hr ?_; (case hd => rfl); (case hg => rfl); (case hr => (go_simp; done)); intro gb128 hg w38 hbox hb; have BK128 := Aside0.mk (hbox); have GW128 := Aside0.mk ((by rw [hg]; exact (below_size (HB.out)) : w.heap.size ≤ gb128)); have GE128 := Aside0.mk ((by rw [hg]; exact (below_size (HB.out)) : w.heap.size ≤ gb128)); replace HB := Aside0.mk (below_step (HB.out) hb); clear hb hbox hg; obtain ⟨hcz39_0, hcz39_1, hcz39_2, hcz39_3, hcz39_4, hcz39_5⟩ := bc6 BK128.out; obtain ⟨hfz39_0, hfz39_1, hfz39_2, hfz39_3, hfz39_4, hfz39_5⟩ := bf6 BK128.out) | ((with_reducible refine gate_callee (f := 12) rfl ?_); refine goesL_ (some 8) rfl rfl Tryd.func12 (by kernel_rfl) rfl #[.agg #[.int .i64 a0_0, .int .i64 a0_1, .int .i64 a0_2, .slice A0_3 l0_3.length c0_3, .string a0_4, .int .i64 a0_5]] rfl (by (try simp only [List.map_toArray, List.map_cons, List.map_nil]); rfl) ?_; (with_reducible refine (note_Check.calls k a0_0 a0_1 a0_2 _ _ l0_3 a0_4 a0_5 t129 _ ?side1 ?side2 A2.out).mono ?_); (case side1 => exact (Kd.C_below HR0_3.out HB.out)); (case side2 => exact HC0_3.out); rintro e w40 ⟨rfl, hb⟩; refine ⟨_, rfl, ?_⟩; replace BK128 := Aside0.mk (blk_below BK128.out hb); replace HB := Aside0.mk (below_step (HB.out) hb); clear hb))
  go_ret2
  exact ⟨by rfl, HB.out⟩

/-! ### strconv_Itoa: function 24 -/
def strconv_Itoa.f (a0 : Int) : Option ByteArray := if -9223372036854775808 ≤ a0 ∧ a0 ≤ 9223372036854775807 then some ⟨(Lib.itoa a0).toArray⟩ else none
theorem strconv_Itoa.calls (a0 : Int) (r : ByteArray) (w : World) (hw_ : WH w) (h : strconv_Itoa.f a0 = some r) : Calls Tryd.prog 24 #[.int .i64 a0] w fun e w' => e = .returned (.string r) ∧ Below w.heap.size w w' := by
 unfold strconv_Itoa.f at h
 by_cases hb : -9223372036854775808 ≤ a0 ∧ a0 ≤ 9223372036854775807
 ·rw [if_pos hb] at h
  obtain rfl := Option.some.inj h
  refine (Any.strconv_Itoa Tryd.laysNm_171 a0 hb.1 hb.2 w hw_.tab).mono ?_
  rintro e w' ⟨rfl, k, os, rfl⟩
  exact ⟨rfl, Go.Lib.below_grow _ w (Nat.le_refl _) k os⟩
 ·rw [if_neg hb] at h; cases h

/-! ### ident_Show: function 22 -/
def ident_Show.l0 : Nat → ByteArray → List (S50) → Int → Int → Option (ByteArray × Int)
 | 0, _, _, _, _ => none
 | k + 1, x5, x22, x23, x24 => if x24 < x23 then (if 0 ≤ x24 then (if x24 < (x22.length : Int) then ((strconv_Itoa.f ((rd_T50 x22 x24).f0)).bind fun t148 => (if 1 + t148.size ≤ 9223372036854775807 then (if 1 + t148.size + 1 ≤ 9223372036854775807 then ((strconv_Itoa.f ((rd_T50 x22 x24).f1)).bind fun t149 => (if 1 + t148.size + 1 + t149.size ≤ 9223372036854775807 then (if x5.size + (1 + t148.size + 1 + t149.size) ≤ 9223372036854775807 then (ident_Show.l0 k (x5 ++ ((((⟨#[47]⟩ : ByteArray) ++ t148) ++ (⟨#[64]⟩ : ByteArray)) ++ t149)) x22 x23 (wrap64 (x24 + 1))) else (none)) else (none))) else (none)) else (none))) else (none)) else (none)) else (some (x5, 0))
def ident_Show.f (k : Nat) (a0_0 : Int) (a0_1 : Int) (l0_2 : List (S50)) : Option (ByteArray × Int) := (ident_Check.f a0_0 a0_1 l0_2).bind fun t143 => (if t143 = 0 then ((strconv_Itoa.f a0_0).bind fun t144 => (if t144.size + 1 ≤ 9223372036854775807 then ((strconv_Itoa.f a0_1).bind fun t145 => (if t144.size + 1 + t145.size ≤ 9223372036854775807 then (ident_Show.l0 k ((t144 ++ (⟨#[46]⟩ : ByteArray)) ++ t145) l0_2 (l0_2.length : Int) 0) else (none))) else (none))) else (some ((⟨#[]⟩ : ByteArray), t143)))
theorem ident_Show.mono_l : ∀ k, (∀ y0 y1 y2 y3, LeO (ident_Show.l0 k y0 y1 y2 y3) (ident_Show.l0 (k + 1) y0 y1 y2 y3))
 | 0 => fun _ _ _ _ r h => by simp [ident_Show.l0] at h
 | k + 1 => by
  have ih0 := ident_Show.mono_l k
  ·intro y0 y1 y2 y3
   unfold ident_Show.l0
   repeat' first
   | (with_reducible exact ih0 _ _ _ _)
   | (with_reducible exact LeO.refl _)
   | (with_reducible exact LeO.none _)
   | (with_reducible refine LeO.ite ?_ ?_)
   | (with_reducible refine LeO.bind ?_ (fun _ => ?_))
   | exact ih0 _ _ _ _
   | exact LeO.none _
   | refine LeO.ite ?_ ?_
   | refine LeO.bind ?_ (fun _ => ?_)
theorem ident_Show.mono : ∀ a0 a1 a2 k, LeO (ident_Show.f k a0 a1 a2) (ident_Show.f (k + 1) a0 a1 a2) := by
 intro a0 a1 a2 k
 have ih0 := ident_Show.mono_l k
 unfold ident_Show.f
 repeat' first
   | (with_reducible exact ih0 _ _ _ _)
   | (with_reducible exact LeO.refl _)
   | (with_reducible exact LeO.none _)
   | (with_reducible refine LeO.ite ?_ ?_)
   | (with_reducible refine LeO.bind ?_ (fun _ => ?_))
   | exact ih0 _ _ _ _
   | exact LeO.none _
   | refine LeO.ite ?_ ?_
   | refine LeO.bind ?_ (fun _ => ?_)
def ident_Show.T4 : Bool × List (List Nat × List Nat) := (true, [([], []), ([0], [0]), ([1], [1]), ([2], [2]), ([], []), ([4], [4]), ([5, 2], [5]), ([3, 6], [3, 6]), ([7, 6, 0, 1, 2, 3, 4, 5, 6, 7], [7])])
def ident_Show.B4 : List Nat := [0, 1, 3, 7, 0, 16, 55, 127, 255]
theorem ident_Show.tab4 : rtab .any (opsOf Tryd.f22 4) = ident_Show.T4 := by kernel_rfl
theorem ident_Show.bits4 : waitsOk ident_Show.T4.2 ident_Show.B4 = true := by kernel_rfl
def ident_Show.T8 : Bool × List (List Nat × List Nat) := (true, [([], []), ([], []), ([1], [1]), ([2], [2]), ([3], [3]), ([4], [4]), ([], []), ([6], [6]), ([7, 3], [7]), ([5, 8], [5, 8]), ([0, 9], [0, 9]), ([10, 8, 0, 1, 2, 3, 4, 5, 6, 7, 8, 9, 10], [0, 10])])
def ident_Show.B8 : List Nat := [0, 0, 2, 6, 14, 30, 0, 64, 206, 510, 1023, 2047]
theorem ident_Show.tab8 : rtab .any (opsOf Tryd.f22 8) = ident_Show.T8 := by kernel_rfl
theorem ident_Show.bits8 : waitsOk ident_Show.T8.2 ident_Show.B8 = true := by kernel_rfl
set_option maxHeartbeats 8000000 in
set_option maxRecDepth 100000 in
theorem ident_Show.calls (k : Nat) (a0_0 : Int) (a0_1 : Int) (A0_2 : Option Addr) (c0_2 : Nat) (l0_2 : List (S50)) (r1 : ByteArray) (r2 : Int) (w : World) (hr0_2 : Kd.C k50 w A0_2 l0_2.length l0_2) (hc0_2 : l0_2.length ≤ c0_2) (hw_ : WH w) (h : ident_Show.f k a0_0 a0_1 l0_2 = some (r1, r2)) :
  Calls Tryd.prog 22 #[.agg #[.int .i64 a0_0, .int .i64 a0_1, .slice A0_2 l0_2.length c0_2]] w fun e w' => e = .returned (.tuple #[.string r1, .int .i64 r2]) ∧ Below w.heap.size w w' := by
 have hu24 := Tryd.underlying24
 have hu50 := Tryd.underlying50
 have HR0_2 := Aside0.mk hr0_2
 have HC0_2 := Aside0.mk hc0_2
 clear hr0_2 hc0_2
 have HWH_ := Aside0.mk hw_
 clear hw_
 have HB := Aside0.mk (Below.refl w.heap.size w)
 have H : ((ident_Check.f a0_0 a0_1 l0_2).bind fun t143 => (if t143 = 0 then ((strconv_Itoa.f a0_0).bind fun t144 => (if t144.size + 1 ≤ 9223372036854775807 then ((strconv_Itoa.f a0_1).bind fun t145 => (if t144.size + 1 + t145.size ≤ 9223372036854775807 then (ident_Show.l0 k ((t144 ++ (⟨#[46]⟩ : ByteArray)) ++ t145) l0_2 (l0_2.length : Int) 0) else (none))) else (none))) else (some ((⟨#[]⟩ : ByteArray), t143)))) = some (r1, r2) := h
 clear h
 obtain ⟨t143, A20, H⟩ := Option.bind_eq_some_iff.mp H
 try dsimp only at H
 have A2 := Aside0.mk A20
 clear A20
 by_cases c3 : t143 = 0
 ·rw [if_pos c3] at H
  have c3b0 : (t143 == 0) = true := beq_iff_eq.mpr c3
  have c3b1 : (t143 != 0) = false := bne_eq_false_iff_eq.mpr c3
  clear c3
  obtain ⟨t144, A40, H⟩ := Option.bind_eq_some_iff.mp H
  try dsimp only at H
  have A4 := Aside0.mk A40
  clear A40
  by_cases c5 : t144.size + 1 ≤ 9223372036854775807
  ·rw [if_pos c5] at H
   have c5b0 := eq_true c5
   have c5b1 : decide (t144.size + 1 ≤ 9223372036854775807) = true := decide_eq_true c5
   try have c5b2 : (9223372036854775807 < t144.size + 1) = False := eq_false (Nat.not_lt.2 c5)
   obtain ⟨t145, A60, H⟩ := Option.bind_eq_some_iff.mp H
   try dsimp only at H
   have A6 := Aside0.mk A60
   clear A60
   by_cases c7 : t144.size + 1 + t145.size ≤ 9223372036854775807
   ·rw [if_pos c7] at H
    have c7b0 := eq_true c7
    have c7b1 : decide (t144.size + 1 + t145.size ≤ 9223372036854775807) = true := decide_eq_true c7
    try have c7b2 : (9223372036854775807 < t144.size + 1 + t145.size) = False := eq_false (Nat.not_lt.2 c7)
    have H' := Aside0.mk H
    clear H
    go_enter Tryd.func22, Tryd.ntmps22
    try go_wp2_with (first | ((with_reducible refine gate_dst (N := 1) rfl ?_); refine box_event ?hg (N := 1) ?hd (cs := #[.int .i64 a0_0, .int .i64 a0_1, .slice A0_2 l0_2.length c0_2]) (t := 24) ?hr ?_; (case hd => rfl); (case hg => rfl); (case hr => (go_simp; done)); intro gb142 hg w8 hbox hb; have BK142 := Aside0.mk (hbox); have GW142 := Aside0.mk ((by rw [hg]; exact (below_size (HB.out)) : w.heap.size ≤ gb142)); have GE142 := Aside0.mk ((by rw [hg]; exact (below_size (HB.out)) : w.heap.size ≤ gb142)); replace HB := Aside0.mk (below_step (HB.out) hb); clear hb hbox hg; obtain ⟨hcz9_0, hcz9_1, hcz9_2⟩ := bc3 BK142.out; obtain ⟨hfz9_0, hfz9_1, hfz9_2⟩ := bf3 BK142.out) | ((with_reducible refine gate_callee (f := 39) rfl ?_); refine goesL_ (some 9) rfl rfl Tryd.func39 (by kernel_rfl) rfl #[.agg #[.int .i64 a0_0, .int .i64 a0_1, .slice A0_2 l0_2.length c0_2]] rfl (by (try simp only [List.map_toArray, List.map_cons, List.map_nil]); rfl) ?_; (with_reducible refine (ident_Check.calls a0_0 a0_1 _ _ l0_2 t143 _ ?side1 ?side2 A2.out).mono ?_); (case side1 => exact (Kd.C_below HR0_2.out HB.out)); (case side2 => exact HC0_2.out); rintro e w10 ⟨rfl, hb⟩; refine ⟨_, rfl, ?_⟩; replace BK142 := Aside0.mk (blk_below BK142.out hb); replace HB := Aside0.mk (below_step (HB.out) hb); clear hb))
    have n0_ := Aside0.mk (blk_drew BK142.out)
    have n1_ := Aside0.mk (below_drew1 HB.out)
    clear BK142 HB
    have BK142 := n0_
    have HB := n1_
    clear n0_ n1_
    refine start_ (n := 9) (S := fun w' => w'.cell? ⟨gb142, 0, none⟩ = some (.int .i64 a0_0) ∧ w'.cell? ⟨gb142, 1, none⟩ = some (.int .i64 a0_1) ∧ w'.cell? ⟨gb142, 2, none⟩ = some (.slice A0_2 l0_2.length c0_2)) (ds := []) #[false, false, false, false, false, false, false, false, false] (by kernel_rfl) rfl rfl (bc3 BK142.out) (fun hHeld => ?_); refine with_tabW ident_Show.tab4 ident_Show.bits4 (fun HT_ HW_ => ?_)
    generalize w10.drew = w11 at BK142 HB hHeld ⊢
    refine pure_ (i := 0) (N := some 13) (v := ?_) (a' := ?_) #[true, false, false, false, false, false, false, false, false] rfl rfl (any_of HT_.out (by kernel_rfl)) (fun _ _ _ h => h) (Or.inl ⟨by rfl, ?_⟩) ?_ ?_
    rotate_left
    ·intro w'
     go_simp
     with_reducible rfl
    rotate_left
    ·simp only [Act.put, List.setIfInBounds_toArray, List.set_cons_zero, List.set_cons_succ, i64_w, i32_w]
     rfl
    refine pure_ (i := 4) (N := some 17) (v := ?_) (a' := ?_) #[true, false, false, false, true, false, false, false, false] rfl rfl (any_of HT_.out (by kernel_rfl)) (fun _ _ _ h => h) (Or.inl ⟨by rfl, ?_⟩) ?_ ?_
    rotate_left
    ·intro w'
     go_simp
     with_reducible rfl
    rotate_left
    ·simp only [Act.put, List.setIfInBounds_toArray, List.set_cons_zero, List.set_cons_succ, i64_w, i32_w]
     rfl
    refine take_ (i := 1) (N := some 14) (v := ?_) (a' := ?_) #[true, true, false, false, true, false, false, false, false] rfl rfl (take_ofW HT_.out HW_.out (by kernel_rfl)) (fun _ _ _ h => h) (Or.inl ⟨by rfl, ?_⟩) hHeld ?_ ?_
    rotate_left
    ·rintro w' ⟨s0, s1, s2⟩
     go_simp
     with_reducible rfl
    rotate_left
    ·simp only [Act.put, List.setIfInBounds_toArray, List.set_cons_zero, List.set_cons_succ, i64_w, i32_w]
     rfl
    refine take_ (i := 5) (N := some 18) (v := ?_) (a' := ?_) #[true, true, false, false, true, true, false, false, false] rfl rfl (take_ofW HT_.out HW_.out (by kernel_rfl)) (fun _ _ _ h => h) (Or.inl ⟨by rfl, ?_⟩) hHeld ?_ ?_
    rotate_left
    ·rintro w' ⟨s0, s1, s2⟩
     go_simp
     with_reducible rfl
    rotate_left
    ·simp only [Act.put, List.setIfInBounds_toArray, List.set_cons_zero, List.set_cons_succ, i64_w, i32_w]
     rfl
    refine one_ (i := 2) (N := some 15) #[true, true, true, false, true, true, false, false, false] rfl rfl (one_of HT_.out (by kernel_rfl)) (by decide) (fun K hK => ?_)
    refine goes_ Tryd.func24 (by kernel_rfl) rfl #[.int .i64 a0_0] (by rfl) rfl rfl (by (try simp only [List.map_toArray, List.map_cons, List.map_nil]); rfl) ?_
    with_reducible refine (strconv_Itoa.calls a0_0 t144 _ ?side1 A4.out).mono ?_
    (case side1 => exact WH.below HWH_.out (HB.out))
    rintro e w12 ⟨rfl, hb⟩
    refine ⟨_, rfl, ?_⟩
    have n0_ := Aside0.mk (blk_below BK142.out hb)
    have n1_ := Aside0.mk (below_step (HB.out) hb)
    clear BK142 HB
    have BK142 := n0_
    have HB := n1_
    clear n0_ n1_
    clear hb
    refine hK.out _ _ (bc3 BK142.out) (fun hHeld => ?_)
    clear hK K
    refine norm_ (a' := ?_) ?_ ?_
    rotate_left
    ·show Act.put _ (some 15) _ = _
     simp only [Act.put, List.setIfInBounds_toArray, List.set_cons_zero, List.set_cons_succ, i64_w, i32_w]
     rfl
    refine pure_ (i := 3) (N := some 16) (v := ?_) (a' := ?_) #[true, true, true, true, true, true, false, false, false] rfl rfl (any_of HT_.out (by kernel_rfl)) (fun _ _ _ h => h) (Or.inl ⟨by rfl, ?_⟩) ?_ ?_
    rotate_left
    ·intro w'
     go_simp
     with_reducible rfl
    rotate_left
    ·simp only [Act.put, List.setIfInBounds_toArray, List.set_cons_zero, List.set_cons_succ, i64_w, i32_w]
     rfl
    refine one_ (i := 6) (N := some 19) #[true, true, true, true, true, true, true, false, false] rfl rfl (one_of HT_.out (by kernel_rfl)) (by decide) (fun K hK => ?_)
    refine goes_ Tryd.func24 (by kernel_rfl) rfl #[.int .i64 a0_1] (by rfl) rfl rfl (by (try simp only [List.map_toArray, List.map_cons, List.map_nil]); rfl) ?_
    with_reducible refine (strconv_Itoa.calls a0_1 t145 _ ?side1 A6.out).mono ?_
    (case side1 => exact WH.below HWH_.out (HB.out))
    rintro e w13 ⟨rfl, hb⟩
    refine ⟨_, rfl, ?_⟩
    have n0_ := Aside0.mk (blk_below BK142.out hb)
    have n1_ := Aside0.mk (below_step (HB.out) hb)
    clear BK142 HB
    have BK142 := n0_
    have HB := n1_
    clear n0_ n1_
    clear hb
    refine hK.out _ _ (bc3 BK142.out) (fun hHeld => ?_)
    clear hK K
    refine norm_ (a' := ?_) ?_ ?_
    rotate_left
    ·show Act.put _ (some 19) _ = _
     simp only [Act.put, List.setIfInBounds_toArray, List.set_cons_zero, List.set_cons_succ, i64_w, i32_w]
     rfl
    refine pure_ (i := 7) (N := some 20) (v := ?_) (a' := ?_) #[true, true, true, true, true, true, true, true, false] rfl rfl (any_of HT_.out (by kernel_rfl)) (fun _ _ _ h => h) (Or.inl ⟨by rfl, ?_⟩) ?_ ?_
    rotate_left
    ·intro w'
     go_simp
     with_reducible rfl
    rotate_left
    ·simp only [Act.put, List.setIfInBounds_toArray, List.set_cons_zero, List.set_cons_succ, i64_w, i32_w]
     rfl
    refine pure_ (i := 8) (N := some 5) (v := ?_) (a' := ?_) #[true, true, true, true, true, true, true, true, true] rfl rfl (any_of HT_.out (by kernel_rfl)) (fun _ _ _ h => h) (Or.inl ⟨by rfl, ?_⟩) ?_ ?_
    rotate_left
    ·intro w'
     go_simp
     with_reducible rfl
    rotate_left
    ·simp only [Act.put, List.setIfInBounds_toArray, List.set_cons_zero, List.set_cons_succ, i64_w, i32_w]
     rfl
    refine done_ (done_of HT_.out (by kernel_rfl)) ?_
    obtain ⟨hcz14_0, hcz14_1, hcz14_2⟩ := bc3 BK142.out
    obtain ⟨hfz14_0, hfz14_1, hfz14_2⟩ := bf3 BK142.out
    try go_wp2
    go_loopg [5, 24] k (fun kq v5 v24 w' => ∃ (x5_1 : ByteArray) (x24_1 : Int), v5 = .string x5_1 ∧ v24 = .int .i64 x24_1 ∧ Aside0 (ident_Show.l0 kq x5_1 l0_2 (l0_2.length : Int) x24_1 = some (r1, r2)) ∧ Aside0 (kq ≤ k) ∧ Aside0 (w'.heap[gb142]? = some (.cells #[.int .i64 a0_0, .int .i64 a0_1, (.slice A0_2 l0_2.length c0_2)] 24 (0, 0))) ∧ Aside0 (Below w.heap.size w w'))
    case atStart => exact ⟨((t144 ++ (⟨#[46]⟩ : ByteArray)) ++ t145), (0), (by rfl), (by rfl), H', ⟨Nat.le_refl _⟩, ⟨by exact BK142.out⟩, ⟨HB.out⟩⟩
    case round =>
     clear H'
     clear c3b0 c3b1 c5 c5b0 c5b1 c5b2 c7 c7b0 c7b1 c7b2 hcz14_0 hcz14_1 hcz14_2 hcz9_0 hcz9_1 hcz9_2 hfz14_0 hfz14_1 hfz14_2 hfz9_0 hfz9_1 hfz9_2
     obtain ⟨x5_1, x24_1, rfl, rfl, HA, HK1, BK142, HB⟩ := hrel
     cases gk with
     | zero => exact absurd HA.out (by simp [ident_Show.l0])
     | succ k1 =>
      have H := HA.out
      clear HA
      simp only [ident_Show.l0] at H
      by_cases c15 : x24_1 < (l0_2.length : Int)
      ·rw [if_pos c15] at H
       have c15b0 : decide (x24_1 < (l0_2.length : Int)) = true := decide_eq_true c15
       clear c15
       by_cases c16 : 0 ≤ x24_1
       ·rw [if_pos c16] at H
        have c16b0 : decide (0 ≤ x24_1) = true := decide_eq_true c16
        clear c16
        by_cases c17 : x24_1 < (l0_2.length : Int)
        ·rw [if_pos c17] at H
         have c17b0 : decide (x24_1 < (l0_2.length : Int)) = true := decide_eq_true c17
         clear c17
         obtain ⟨t148, A180, H⟩ := Option.bind_eq_some_iff.mp H
         try dsimp only at H
         have A18 := Aside0.mk A180
         clear A180
         by_cases c19 : 1 + t148.size ≤ 9223372036854775807
         ·rw [if_pos c19] at H
          have c19b0 := eq_true c19
          have c19b1 : decide (1 + t148.size ≤ 9223372036854775807) = true := decide_eq_true c19
          try have c19b2 : (9223372036854775807 < 1 + t148.size) = False := eq_false (Nat.not_lt.2 c19)
          by_cases c20 : 1 + t148.size + 1 ≤ 9223372036854775807
          ·rw [if_pos c20] at H
           have c20b0 := eq_true c20
           have c20b1 : decide (1 + t148.size + 1 ≤ 9223372036854775807) = true := decide_eq_true c20
           try have c20b2 : (9223372036854775807 < 1 + t148.size + 1) = False := eq_false (Nat.not_lt.2 c20)
           obtain ⟨t149, A210, H⟩ := Option.bind_eq_some_iff.mp H
           try dsimp only at H
           have A21 := Aside0.mk A210
           clear A210
           by_cases c22 : 1 + t148.size + 1 + t149.size ≤ 9223372036854775807
           ·rw [if_pos c22] at H
            have c22b0 := eq_true c22
            have c22b1 : decide (1 + t148.size + 1 + t149.size ≤ 9223372036854775807) = true := decide_eq_true c22
            try have c22b2 : (9223372036854775807 < 1 + t148.size + 1 + t149.size) = False := eq_false (Nat.not_lt.2 c22)
            by_cases c23 : x5_1.size + (1 + t148.size + 1 + t149.size) ≤ 9223372036854775807
            ·rw [if_pos c23] at H
             have c23b0 := eq_true c23
             have c23b1 : decide (x5_1.size + (1 + t148.size + 1 + t149.size) ≤ 9223372036854775807) = true := decide_eq_true c23
             try have c23b2 : (9223372036854775807 < x5_1.size + (1 + t148.size + 1 + t149.size)) = False := eq_false (Nat.not_lt.2 c23)
             have H' := Aside0.mk H
             clear H
             have p146 : 0 ≤ (x24_1 : Int) := of_decide_eq_true (by (with_reducible assumption))
             have q146 : x24_1 < (l0_2.length : Int) := of_decide_eq_true (by (with_reducible assumption))
             obtain ⟨ad146, e146, hx146_0, hx146_1⟩ := at_T50 HR0_2.out x24_1 p146 q146
             cases e146
             try replace hx146_0 := (HB.out.cell (World.block_lt_of_cell? w _ hx146_0)).trans hx146_0
             try replace hx146_1 := (HB.out.cell (World.block_lt_of_cell? w _ hx146_1)).trans hx146_1
             replace p146 := eq_true p146
             replace q146 := eq_true q146
             try go_wp2_with (first | ((with_reducible refine gate_dst (N := 7) rfl ?_); refine box_event ?hg (N := 7) ?hd (cs := #[.int .i64 0, .int .i64 0]) (t := 50) ?hr ?_; (case hd => rfl); (case hg => rfl); (case hr => (go_simp; done)); intro gb147 hg w24 hbox hb; have BK147 := Aside0.mk (hbox); have GW147 := Aside0.mk ((by rw [hg]; exact (below_size (HB.out)) : w.heap.size ≤ gb147)); have GE147 := Aside0.mk ((by rw [hg]; exact (below_size (HB.out)) : w.heap.size ≤ gb147)); replace HB := Aside0.mk (below_step (HB.out) hb); have NB142_147 := Aside0.mk ((by rw [hg]; exact Nat.ne_of_lt (blk_lt BK142.out) : gb142 ≠ gb147)); have NB147_142 := Aside0.mk ((by rw [hg]; exact Nat.ne_of_gt (blk_lt BK142.out) : gb147 ≠ gb142)); replace BK142 := Aside0.mk (blk_below BK142.out hb); clear hb hbox hg; have hnb25 := NB147_142.out; have hnc25 := NB142_147.out; obtain ⟨hcz26_0, hcz26_1⟩ := bc2 BK147.out; obtain ⟨hfz26_0, hfz26_1⟩ := bf2 BK147.out))
             have n0_ : Aside0 (((w24.setCell ⟨gb147, 0, none⟩ (.int .i64 ((rd_T50 l0_2 x24_1).f0))).setCell ⟨gb147, 1, none⟩ (.int .i64 ((rd_T50 l0_2 x24_1).f1))).heap[gb142]? = some (.cells #[.int .i64 a0_0, .int .i64 a0_1, .slice (some ad146) l0_2.length c0_2] 24 (0, 0))) := ⟨by refine blk_far ?_ NB142_147.out _; refine blk_far ?_ NB142_147.out _; exact BK142.out⟩
             have n1_ : Aside0 (((w24.setCell ⟨gb147, 0, none⟩ (.int .i64 ((rd_T50 l0_2 x24_1).f0))).setCell ⟨gb147, 1, none⟩ (.int .i64 ((rd_T50 l0_2 x24_1).f1))).heap[gb147]? = some (.cells #[.int .i64 ((rd_T50 l0_2 x24_1).f0), .int .i64 ((rd_T50 l0_2 x24_1).f1)] 50 (0, 0))) := ⟨by refine blk_put (cs := #[.int .i64 ((rd_T50 l0_2 x24_1).f0), .int .i64 0]) ?_ 1 _ rfl; refine blk_put (cs := #[.int .i64 0, .int .i64 0]) ?_ 0 _ rfl; exact BK147.out⟩
             have n2_ : Aside0 (Below w.heap.size w ((w24.setCell ⟨gb147, 0, none⟩ (.int .i64 ((rd_T50 l0_2 x24_1).f0))).setCell ⟨gb147, 1, none⟩ (.int .i64 ((rd_T50 l0_2 x24_1).f1)))) := ⟨below_set (below_set HB.out GE147.out) GE147.out⟩
             clear BK142
             clear BK147
             clear HB
             generalize ((w24.setCell ⟨gb147, 0, none⟩ (.int .i64 ((rd_T50 l0_2 x24_1).f0))).setCell ⟨gb147, 1, none⟩ (.int .i64 ((rd_T50 l0_2 x24_1).f1))) = w27 at n0_ n1_ n2_ ⊢
             have BK142 := n0_
             have BK147 := n1_
             have HB := n2_
             clear n0_ n1_ n2_
             have n0_ := Aside0.mk (blk_drew BK142.out)
             have n1_ := Aside0.mk (blk_drew BK147.out)
             have n2_ := Aside0.mk (below_drew1 HB.out)
             clear BK142 BK147 HB
             have BK142 := n0_
             have BK147 := n1_
             have HB := n2_
             clear n0_ n1_ n2_
             refine start_ (n := 12) (S := fun w' => w'.cell? ⟨gb147, 0, none⟩ = some (.int .i64 ((rd_T50 l0_2 x24_1).f0)) ∧ w'.cell? ⟨gb147, 1, none⟩ = some (.int .i64 ((rd_T50 l0_2 x24_1).f1))) (ds := []) #[false, false, false, false, false, false, false, false, false, false, false, false] (by kernel_rfl) rfl rfl (bc2 BK147.out) (fun hHeld => ?_); refine with_tabW ident_Show.tab8 ident_Show.bits8 (fun HT_ HW_ => ?_)
             generalize w27.drew = w28 at BK142 BK147 HB hHeld ⊢
             refine pure_ (i := 0) (N := some 28) (v := ?_) (a' := ?_) #[true, false, false, false, false, false, false, false, false, false, false, false] rfl rfl (any_of HT_.out (by kernel_rfl)) (fun _ _ _ h => h) (Or.inl ⟨by rfl, ?_⟩) ?_ ?_
             rotate_left
             ·intro w'
              go_simp
              with_reducible rfl
             rotate_left
             ·simp only [Act.put, List.setIfInBounds_toArray, List.set_cons_zero, List.set_cons_succ, i64_w, i32_w]
              rfl
             refine pure_ (i := 1) (N := some 29) (v := ?_) (a' := ?_) #[true, true, false, false, false, false, false, false, false, false, false, false] rfl rfl (any_of HT_.out (by kernel_rfl)) (fun _ _ _ h => h) (Or.inl ⟨by rfl, ?_⟩) ?_ ?_
             rotate_left
             ·intro w'
              go_simp
              with_reducible rfl
             rotate_left
             ·simp only [Act.put, List.setIfInBounds_toArray, List.set_cons_zero, List.set_cons_succ, i64_w, i32_w]
              rfl
             refine pure_ (i := 6) (N := some 34) (v := ?_) (a' := ?_) #[true, true, false, false, false, false, true, false, false, false, false, false] rfl rfl (any_of HT_.out (by kernel_rfl)) (fun _ _ _ h => h) (Or.inl ⟨by rfl, ?_⟩) ?_ ?_
             rotate_left
             ·intro w'
              go_simp
              with_reducible rfl
             rotate_left
             ·simp only [Act.put, List.setIfInBounds_toArray, List.set_cons_zero, List.set_cons_succ, i64_w, i32_w]
              rfl
             refine take_ (i := 2) (N := some 30) (v := ?_) (a' := ?_) #[true, true, true, false, false, false, true, false, false, false, false, false] rfl rfl (take_ofW HT_.out HW_.out (by kernel_rfl)) (fun _ _ _ h => h) (Or.inl ⟨by rfl, ?_⟩) hHeld ?_ ?_
             rotate_left
             ·rintro w' ⟨s0, s1⟩
              go_simp
              with_reducible rfl
             rotate_left
             ·simp only [Act.put, List.setIfInBounds_toArray, List.set_cons_zero, List.set_cons_succ, i64_w, i32_w]
              rfl
             refine take_ (i := 7) (N := some 35) (v := ?_) (a' := ?_) #[true, true, true, false, false, false, true, true, false, false, false, false] rfl rfl (take_ofW HT_.out HW_.out (by kernel_rfl)) (fun _ _ _ h => h) (Or.inl ⟨by rfl, ?_⟩) hHeld ?_ ?_
             rotate_left
             ·rintro w' ⟨s0, s1⟩
              go_simp
              with_reducible rfl
             rotate_left
             ·simp only [Act.put, List.setIfInBounds_toArray, List.set_cons_zero, List.set_cons_succ, i64_w, i32_w]
              rfl
             refine one_ (i := 3) (N := some 31) #[true, true, true, true, false, false, true, true, false, false, false, false] rfl rfl (one_of HT_.out (by kernel_rfl)) (by decide) (fun K hK => ?_)
             refine goes_ Tryd.func24 (by kernel_rfl) rfl #[.int .i64 ((rd_T50 l0_2 x24_1).f0)] (by rfl) rfl rfl (by (try simp only [List.map_toArray, List.map_cons, List.map_nil]); rfl) ?_
             with_reducible refine (strconv_Itoa.calls ((rd_T50 l0_2 x24_1).f0) t148 _ ?side1 A18.out).mono ?_
             (case side1 => exact WH.below HWH_.out (HB.out))
             rintro e w29 ⟨rfl, hb⟩
             refine ⟨_, rfl, ?_⟩
             have n0_ := Aside0.mk (blk_below BK142.out hb)
             have n1_ := Aside0.mk (blk_below BK147.out hb)
             have n2_ := Aside0.mk (below_step (HB.out) hb)
             clear BK142 BK147 HB
             have BK142 := n0_
             have BK147 := n1_
             have HB := n2_
             clear n0_ n1_ n2_
             clear hb
             refine hK.out _ _ (bc2 BK147.out) (fun hHeld => ?_)
             clear hK K
             refine norm_ (a' := ?_) ?_ ?_
             rotate_left
             ·show Act.put _ (some 31) _ = _
              simp only [Act.put, List.setIfInBounds_toArray, List.set_cons_zero, List.set_cons_succ, i64_w, i32_w]
              rfl
             refine pure_ (i := 4) (N := some 32) (v := ?_) (a' := ?_) #[true, true, true, true, true, false, true, true, false, false, false, false] rfl rfl (any_of HT_.out (by kernel_rfl)) (fun _ _ _ h => h) (Or.inl ⟨by rfl, ?_⟩) ?_ ?_
             rotate_left
             ·intro w'
              go_simp
              with_reducible rfl
             rotate_left
             ·simp only [Act.put, List.setIfInBounds_toArray, List.set_cons_zero, List.set_cons_succ, i64_w, i32_w]
              rfl
             refine pure_ (i := 5) (N := some 33) (v := ?_) (a' := ?_) #[true, true, true, true, true, true, true, true, false, false, false, false] rfl rfl (any_of HT_.out (by kernel_rfl)) (fun _ _ _ h => h) (Or.inl ⟨by rfl, ?_⟩) ?_ ?_
             rotate_left
             ·intro w'
              go_simp
              with_reducible rfl
             rotate_left
             ·simp only [Act.put, List.setIfInBounds_toArray, List.set_cons_zero, List.set_cons_succ, i64_w, i32_w]
              rfl
             refine one_ (i := 8) (N := some 36) #[true, true, true, true, true, true, true, true, true, false, false, false] rfl rfl (one_of HT_.out (by kernel_rfl)) (by decide) (fun K hK => ?_)
             refine goes_ Tryd.func24 (by kernel_rfl) rfl #[.int .i64 ((rd_T50 l0_2 x24_1).f1)] (by rfl) rfl rfl (by (try simp only [List.map_toArray, List.map_cons, List.map_nil]); rfl) ?_
             with_reducible refine (strconv_Itoa.calls ((rd_T50 l0_2 x24_1).f1) t149 _ ?side1 A21.out).mono ?_
             (case side1 => exact WH.below HWH_.out (HB.out))
             rintro e w30 ⟨rfl, hb⟩
             refine ⟨_, rfl, ?_⟩
             have n0_ := Aside0.mk (blk_below BK142.out hb)
             have n1_ := Aside0.mk (blk_below BK147.out hb)
             have n2_ := Aside0.mk (below_step (HB.out) hb)
             clear BK142 BK147 HB
             have BK142 := n0_
             have BK147 := n1_
             have HB := n2_
             clear n0_ n1_ n2_
             clear hb
             refine hK.out _ _ (bc2 BK147.out) (fun hHeld => ?_)
             clear hK K
             refine norm_ (a' := ?_) ?_ ?_
             rotate_left
             ·show Act.put _ (some 36) _ = _
              simp only [Act.put, List.setIfInBounds_toArray, List.set_cons_zero, List.set_cons_succ, i64_w, i32_w]
              rfl
             refine pure_ (i := 9) (N := some 37) (v := ?_) (a' := ?_) #[true, true, true, true, true, true, true, true, true, true, false, false] rfl rfl (any_of HT_.out (by kernel_rfl)) (fun _ _ _ h => h) (Or.inl ⟨by rfl, ?_⟩) ?_ ?_
             rotate_left
             ·intro w'
              go_simp
              with_reducible rfl
             rotate_left
             ·simp only [Act.put, List.setIfInBounds_toArray, List.set_cons_zero, List.set_cons_succ, i64_w, i32_w]
              rfl
             refine pure_ (i := 10) (N := some 38) (v := ?_) (a' := ?_) #[true, true, true, true, true, true, true, true, true, true, true, false] rfl rfl (any_of HT_.out (by kernel_rfl)) (fun _ _ _ h => h) (Or.inl ⟨by rfl, ?_⟩) ?_ ?_
             rotate_left
             ·intro w'
              go_simp
              with_reducible rfl
             rotate_left
             ·simp only [Act.put, List.setIfInBounds_toArray, List.set_cons_zero, List.set_cons_succ, i64_w, i32_w]
              rfl
             refine pure_ (i := 11) (N := some 5) (v := ?_) (a' := ?_) #[true, true, true, true, true, true, true, true, true, true, true, true] rfl rfl (any_of HT_.out (by kernel_rfl)) (fun _ _ _ h => h) (Or.inl ⟨by rfl, ?_⟩) ?_ ?_
             rotate_left
             ·intro w'
              go_simp
              with_reducible rfl
             rotate_left
             ·simp only [Act.put, List.setIfInBounds_toArray, List.set_cons_zero, List.set_cons_succ, i64_w, i32_w]
              rfl
             refine done_ (done_of HT_.out (by kernel_rfl)) ?_
             try go_wp2
             go_roundg k1
             case measure => have := HK1.out; omega
             case rel => exact ⟨(x5_1 ++ ((((⟨#[47]⟩ : ByteArray) ++ t148) ++ (⟨#[64]⟩ : ByteArray)) ++ t149)), (wrap64 (x24_1 + 1)), (by rfl), (by rfl), H', ⟨by have := HK1.out; omega⟩, ⟨by exact BK142.out⟩, ⟨HB.out⟩⟩
            ·rw [if_neg c23] at H
             exact absurd H (by simp)
           ·rw [if_neg c22] at H
            exact absurd H (by simp)
          ·rw [if_neg c20] at H
           exact absurd H (by simp)
         ·rw [if_neg c19] at H
          exact absurd H (by simp)
        ·rw [if_neg c17] at H
         exact absurd H (by simp)
       ·rw [if_neg c16] at H
        exact absurd H (by simp)
      ·rw [if_neg c15] at H
       have c15b0 : decide (x24_1 < (l0_2.length : Int)) = false := decide_eq_false c15
       clear c15
       simp only [Option.some.injEq, Prod.mk.injEq] at H
       obtain ⟨rfl, rfl⟩ := H
       go_wp2
       go_ret2
       exact ⟨by rfl, HB.out⟩
   ·rw [if_neg c7] at H
    exact absurd H (by simp)
  ·rw [if_neg c5] at H
   exact absurd H (by simp)
 ·rw [if_neg c3] at H
  have c3b0 : (t143 == 0) = false := beq_eq_false_iff_ne.mpr c3
  have c3b1 : (t143 != 0) = true := bne_iff_ne.mpr c3
  simp only [Option.some.injEq, Prod.mk.injEq] at H
  obtain ⟨rfl, rfl⟩ := H
  go_enter Tryd.func22, Tryd.ntmps22
  go_wp2_with (first | ((with_reducible refine gate_dst (N := 1) rfl ?_); refine box_event ?hg (N := 1) ?hd (cs := #[.int .i64 a0_0, .int .i64 a0_1, .slice A0_2 l0_2.length c0_2]) (t := 24) ?hr ?_; (case hd => rfl); (case hg => rfl); (case hr => (go_simp; done)); intro gb142 hg w31 hbox hb; have BK142 := Aside0.mk (hbox); have GW142 := Aside0.mk ((by rw [hg]; exact (below_size (HB.out)) : w.heap.size ≤ gb142)); have GE142 := Aside0.mk ((by rw [hg]; exact (below_size (HB.out)) : w.heap.size ≤ gb142)); replace HB := Aside0.mk (below_step (HB.out) hb); clear hb hbox hg; obtain ⟨hcz32_0, hcz32_1, hcz32_2⟩ := bc3 BK142.out; obtain ⟨hfz32_0, hfz32_1, hfz32_2⟩ := bf3 BK142.out) | ((with_reducible refine gate_callee (f := 39) rfl ?_); refine goesL_ (some 9) rfl rfl Tryd.func39 (by kernel_rfl) rfl #[.agg #[.int .i64 a0_0, .int .i64 a0_1, .slice A0_2 l0_2.length c0_2]] rfl (by (try simp only [List.map_toArray, List.map_cons, List.map_nil]); rfl) ?_; (with_reducible refine (ident_Check.calls a0_0 a0_1 _ _ l0_2 t143 _ ?side1 ?side2 A2.out).mono ?_); (case side1 => exact (Kd.C_below HR0_2.out HB.out)); (case side2 => exact HC0_2.out); rintro e w33 ⟨rfl, hb⟩; refine ⟨_, rfl, ?_⟩; replace BK142 := Aside0.mk (blk_below BK142.out hb); replace HB := Aside0.mk (below_step (HB.out) hb); clear hb))
  go_ret2
  exact ⟨by rfl, HB.out⟩

/-! ### note_word: function 23 -/
def note_word.ws : List ByteArray := [⟨#[]⟩, ⟨#[111, 102, 102, 101, 114]⟩, ⟨#[114, 101, 110, 101, 119]⟩, ⟨#[99, 111, 109, 109, 105, 116]⟩, ⟨#[117, 110, 100, 111]⟩, ⟨#[104, 101, 108, 100]⟩, ⟨#[103, 111, 110, 101]⟩, ⟨#[107, 101, 112, 116]⟩]
def note_word.f (a0 : Int) : Option ByteArray := if 0 ≤ a0 ∧ a0 < 8 then some (note_word.ws.getD a0.toNat ⟨#[]⟩) else none
theorem note_word.at_ (i : Nat) (hi : i < 8) (w : World) : (Instr.index 75 (.agg #[.string ⟨#[]⟩, .string ⟨#[111, 102, 102, 101, 114]⟩, .string ⟨#[114, 101, 110, 101, 119]⟩, .string ⟨#[99, 111, 109, 109, 105, 116]⟩, .string ⟨#[117, 110, 100, 111]⟩, .string ⟨#[104, 101, 108, 100]⟩, .string ⟨#[103, 111, 110, 101]⟩, .string ⟨#[107, 101, 112, 116]⟩]) (.int .i64 (i : Int))).run Tryd.prog w = .ok (.string (note_word.ws.getD i ⟨#[]⟩)) w := by
 have hc : i = 0 ∨ i = 1 ∨ i = 2 ∨ i = 3 ∨ i = 4 ∨ i = 5 ∨ i = 6 ∨ i = 7 := by omega
 rcases hc with rfl | rfl | rfl | rfl | rfl | rfl | rfl | rfl
 all_goals (show _ = _; kernel_rfl)
set_option maxHeartbeats 4000000 in
set_option maxRecDepth 100000 in
theorem note_word.calls (a0 : Int) (r : ByteArray) (w : World) (h : note_word.f a0 = some r) : Calls Tryd.prog 23 #[.int .i64 a0] w fun e w' => e = .returned (.string r) ∧ Drawn0 w w' := by
 unfold note_word.f at h
 by_cases hb : 0 ≤ a0 ∧ a0 < 8
 case neg => rw [if_neg hb] at h; cases h
 rw [if_pos hb] at h
 obtain rfl := Option.some.inj h
 clear h
 obtain ⟨i, rfl⟩ := Int.eq_ofNat_of_zero_le hb.1
 have hs := note_word.at_ i (by omega) w
 rw [Int.toNat_natCast]
 clear hb
 go_enter Tryd.func23, Tryd.ntmps23
 go_wp2
 go_ret
 exact ⟨rfl, ⟨0, rfl⟩⟩

end Go.Proofs.YtlaeihdldofkcaaDoor.PN

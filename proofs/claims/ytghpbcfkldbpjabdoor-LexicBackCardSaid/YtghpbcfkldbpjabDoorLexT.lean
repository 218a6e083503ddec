/- How tokens are written: the program's text and the document's. -/
import Derived.Test.YtghpbcfkldbpjabDoorLexS
import Derived.Test.YtghpbcfkldbpjabDoorPLx12
namespace Go.Proofs.YtghpbcfkldbpjabDoor.LT
open Go.RowKit Go.Proofs.YtghpbcfkldbpjabDoorW.PrintWords Go.Proofs.YtghpbcfkldbpjabDoor.B Go.Proofs.YtghpbcfkldbpjabDoor.PL Go.Proofs.YtghpbcfkldbpjabDoor.LA Go.Proofs.YtghpbcfkldbpjabDoor.LB Go.Proofs.YtghpbcfkldbpjabDoor.LC Go.Proofs.YtghpbcfkldbpjabDoor.LD Go.Proofs.YtghpbcfkldbpjabDoor.LE Go.Proofs.YtghpbcfkldbpjabDoor.LS
set_option linter.unusedSimpArgs false
set_option linter.unusedVariables false

/-- The bytes of tokens' texts from the i-th on, a blank ahead of each but the first of all. -/
def jb : List S32 → Nat → List UInt8
  | [], _ => []
  | t :: l, i => (if 0 < i then [32] else []) ++ (t.f1.data.toList ++ jb l (i + 1))
theorem jb_len : ∀ (l : List S32) (i : Nat), (jb l i).length = tot l i
  | [], i => rfl
  | t :: l, i => by
    unfold jb tot
    rw [List.length_append, List.length_append, jb_len l (i + 1), ← size_eq_length]
    split
    · simp only [List.length_cons, List.length_nil]; omega
    · simp only [List.length_nil]; omega
theorem jb_flat : ∀ (l : List S32) (i : Nat), 0 < i → jb l i = l.flatMap fun t => 32 :: t.f1.data.toList
  | [], i, h => rfl
  | t :: l, i, h => by
    unfold jb
    rw [if_pos h, jb_flat l (i + 1) (by omega), List.flatMap_cons]
    rfl
theorem join_cons (a : List UInt8) (l : List (List UInt8)) : Lib.join (a :: l) [32] = a ++ l.flatMap fun t => 32 :: t := by
  induction l generalizing a with
  | nil => simp [Lib.join, List.intercalate]
  | cons b l ih =>
    have := ih b
    unfold Lib.join at this ⊢
    rw [List.flatMap_cons]
    simp only [List.intercalate, List.intersperse] at this ⊢
    simp only [List.flatten_cons] at this ⊢
    rw [this]
    simp
theorem join_jb (l : List S32) : Lib.join (l.map fun t => t.f1.data.toList) [32] = jb l 0 := by
  cases l with
  | nil => rfl
  | cons t l =>
    rw [List.map_cons, join_cons]
    unfold jb
    rw [if_neg (by omega), jb_flat l 1 (by omega), List.nil_append, List.flatMap_map]
/-- The text of tokens. -/
def txt (l : List S32) : ByteArray := ⟨(jb l 0).toArray⟩
theorem txt_bytes (l : List S32) : (txt l).data.toList = jb l 0 := by unfold txt; simp
theorem show_loop (y : List S32) (hy : y.length ≤ 100000) (ht : tot y 0 ≤ 2000) : ∀ (d i : Nat), y.length - i = d → i ≤ y.length → Ev (fun k => lexic_Show.l0 k ((y.take i).map (·.f1)) y (y.length : Int) (i : Int)) (txt y, 0)
  | 0, i, hd, h => by
    refine Ev.step (fun k => by rw [lexic_Show.l0]) (ev_neg (by omega) ?_)
    rw [List.take_of_length_le (by omega)]
    have hj : Lib.join ((y.map (·.f1)).map (·.data.toList)) (⟨#[32]⟩ : ByteArray).data.toList = jb y 0 := by
      rw [List.map_map]
      exact join_jb y
    refine ev_bind0 (a := txt y) ?_ (Ev.some rfl)
    unfold strings_Join.f
    rw [hj, if_pos ⟨by rw [jb_len]; omega, by rw [List.length_map]; omega⟩]
    rfl
  | d + 1, i, hd, h => by
    refine Ev.step (fun k => by rw [lexic_Show.l0]) (ev_pos (by omega) (ev_pos (by omega) (ev_pos (by omega) (ev_pos ?_ ?_))))
    · rw [List.length_map, List.length_take]; omega
    · rw [rd_get y i (by omega), wrap64_of (by omega) (by omega)]
      have e : (y.take i).map (·.f1) ++ [y[i].f1] = (y.take (i + 1)).map (·.f1) := by
        rw [List.take_succ_eq_append_getElem (by omega : i < y.length), List.map_append]; rfl
      rw [e]
      exact show_loop y hy ht d (i + 1) (by omega) (by omega)
theorem rshow_loop (l : List S32) (hl : l.length ≤ 100000) (n : Nat) (hn : l.length = n + 1) (ht : tot (l.take n) 0 ≤ 2000) : ∀ (d i : Nat) (x : ByteArray), n - i = d → i ≤ n → x.data.toList ++ jb ((l.take n).drop i) i = jb (l.take n) 0 → Ev (fun k => ententeref08_Show.l0 k l x (i : Int)) (txt (l.take n), 0)
  | 0, i, x, hd, h, hx => by
    refine Ev.step (fun k => by rw [ententeref08_Show.l0]) ?_
    rw [wrap64_of (by omega) (by omega)]
    refine ev_neg (by omega) (Ev.some ?_)
    rw [List.drop_of_length_le (by rw [List.length_take]; omega)] at hx
    congr 1
    apply str_ext
    rw [txt_bytes, ← hx]
    simp [jb]
  | d + 1, i, x, hd, h, hx => by
    have hlt : i < (l.take n).length := by rw [List.length_take]; omega
    have hg : (l.take n)[i] = l[i]'(by omega) := List.getElem_take
    rw [List.drop_eq_getElem_cons hlt, hg] at hx
    have hlen := congrArg List.length hx
    rw [jb_len, List.length_append, ← size_eq_length] at hlen
    have hlen2 := jb_len (l[i]'(by omega) :: (l.take n).drop (i + 1)) i
    rw [show tot (l[i]'(by omega) :: (l.take n).drop (i + 1)) i = (l[i]'(by omega)).f1.size + min i 1 + tot ((l.take n).drop (i + 1)) (i + 1) from rfl] at hlen2
    have ih := fun x' hx' => rshow_loop l hl n hn ht d (i + 1) x' (by omega) (by omega) hx'
    refine Ev.step (fun k => by rw [ententeref08_Show.l0]) ?_
    rw [wrap64_of (by omega) (by omega)]
    rw [rd_get l i (by omega)]
    generalize l[i]'(by omega) = t at hx hlen hlen2 ⊢
    rw [show jb (t :: (l.take n).drop (i + 1)) i = (if 0 < i then [32] else []) ++ (t.f1.data.toList ++ jb ((l.take n).drop (i + 1)) (i + 1)) from rfl] at hx
    have c1 : (i : Int) < (l.length : Int) - 1 := by omega
    have w1 : wrap64 ((i : Int) + 1) = ((i + 1 : Nat) : Int) := by rw [wrap64_of (by omega) (by omega)]; omega
    rw [w1]
    rw [hlen2] at hlen
    have c2 : x.size + 1 + t.f1.size ≤ 9223372036854775807 := by
      clear ih hx w1 c1 hlt hg hl hn h hd hlen2
      generalize tot ((l.take n).drop (i + 1)) (i + 1) = u at hlen
      generalize tot (l.take n) 0 = v at hlen ht
      generalize t.f1.size = a at hlen ⊢
      generalize x.size = b at hlen ⊢
      omega
    clear hlen hlen2 ht
    refine ev_pos c1 (ev_ite (fun hi => ev_pos (by omega) (ev_pos (by omega) (ev_pos (by omega) (ev_pos c2 (ih _ ?_))))) (fun hi => ev_pos (by omega) (ev_pos (by omega) (ev_pos (by omega) (ih _ ?_)))))
    · rw [← hx, if_pos (by omega)]
      simp only [data_append, List.append_assoc]
    · rw [← hx, if_neg (by omega)]
      simp only [data_append, List.append_assoc, List.nil_append]
/-- What a writing tells. -/
def shw (l : List S32) (c : Int) : ByteArray × Int := if c = 0 then (txt l.dropLast, 0) else (⟨#[]⟩, c)
theorem show_ev (l : List S32) (hl : l.length ≤ 100000) (c : Int) (hc : Ev (fun k => lexic_Check.f k l) c) (hg : c = 0 → l ≠ [] ∧ tot l.dropLast 0 ≤ 2000) : Ev (fun k => lexic_Show.f k l) (shw l c) := by
  unfold lexic_Show.f shw
  refine Ev.bind hc (ev_ite (fun h => ?_) (fun h => ?_))
  · obtain ⟨h1, h2⟩ := hg h
    have h0 : 0 < l.length := by cases l with
      | nil => exact absurd rfl h1
      | cons a l => simp
    have hw : wrap64 ((l.length : Int) - 1) = ((l.length - 1 : Nat) : Int) := by rw [wrap64_of (by omega) (by omega)]; omega
    rw [if_pos h, hw]
    refine ev_pos (by omega) (ev_pos (by omega) (ev_bind0 (a := l.dropLast) (by rw [Int.toNat_natCast, List.dropLast_eq_take]) ?_))
    exact show_loop l.dropLast (by rw [List.length_dropLast]; omega) h2 _ 0 rfl (Nat.zero_le _)
  · rw [if_neg h]
    exact Ev.some rfl
theorem rshow_ev (l : List S32) (hl : l.length ≤ 100000) (c : Int) (hc : Ev (fun k => ententeref08_Check.f k l) c) (hg : c = 0 → l ≠ [] ∧ tot l.dropLast 0 ≤ 2000) : Ev (fun k => ententeref08_Show.f k l) (shw l c) := by
  unfold ententeref08_Show.f shw
  refine Ev.bind hc (ev_ite (fun h => ?_) (fun h => ?_))
  · obtain ⟨h1, h2⟩ := hg h
    have h0 : 0 < l.length := by cases l with
      | nil => exact absurd rfl h1
      | cons a l => simp
    rw [if_pos h]
    rw [List.dropLast_eq_take] at h2 ⊢
    exact rshow_loop l hl (l.length - 1) (by omega) h2 _ 0 (⟨#[]⟩ : ByteArray) rfl (Nat.zero_le _) (by rw [List.drop_zero]; rfl)
  · rw [if_neg h]
    exact Ev.some rfl
/-- Both checks tell the same, and both writings; where all is well, all tokens ahead of the last one fit, and the last one is the end. -/
theorem show_both (l : List S32) (hl : l.length ≤ 5000) : ∃ c, (Ev (fun k => lexic_Check.f k l) c ∧ Ev (fun k => ententeref08_Check.f k l) c) ∧ (Ev (fun k => lexic_Show.f k l) (shw l c) ∧ Ev (fun k => ententeref08_Show.f k l) (shw l c)) ∧ (c = 0 → ∃ out e, l = out ++ [e] ∧ e.f0 = 0 ∧ e.f1.toList = [] ∧ (∀ t ∈ out, fit t = true) ∧ tot out 0 ≤ 2000) := by
  have key : ∃ c, (Ev (fun k => lexic_Check.f k l) c ∧ Ev (fun k => ententeref08_Check.f k l) c) ∧ (c = 0 → ∃ out e, l = out ++ [e] ∧ e.f0 = 0 ∧ e.f1.toList = [] ∧ (∀ t ∈ out, fit t = true) ∧ tot out 0 ≤ 2000) := by
    rcases List.eq_nil_or_concat l with rfl | ⟨out, e, rfl⟩
    · exact ⟨80, ⟨check_nil, rcheck_nil⟩, fun h => by omega⟩
    · have ho : out.length ≤ 5000 := by rw [List.concat_eq_append, List.length_append] at hl; omega
      rw [List.concat_eq_append]
      refine ⟨_, ⟨check_ev out e (by omega), rcheck_ev out e (by omega)⟩, fun h => ⟨out, e, rfl, ?_⟩⟩
      by_cases he : e.f0 = 0 ∧ e.f1.toList = []
      · rw [if_pos he] at h
        by_cases hf : ∀ t ∈ out, fit t = true
        · rw [ck_tot out 0 0 hf (by omega) (by omega)] at h
          refine ⟨he.1, he.2, hf, ?_⟩
          by_cases ht : (0 : Int) + (tot out 0 : Int) > 2000
          · rw [if_pos ht] at h; omega
          · omega
        · rw [ck_bad out 0 0 hf] at h; omega
      · rw [if_neg he] at h; omega
  obtain ⟨c, ⟨h1, h2⟩, h3⟩ := key
  have hg : c = 0 → l ≠ [] ∧ tot l.dropLast 0 ≤ 2000 := by
    intro h
    obtain ⟨out, e, rfl, _, _, _, ht⟩ := h3 h
    rw [List.dropLast_concat]
    exact ⟨by simp, ht⟩
  exact ⟨c, ⟨h1, h2⟩, ⟨show_ev l (by omega) c h1 hg, rshow_ev l (by omega) c h2 hg⟩, h3⟩
end Go.Proofs.YtghpbcfkldbpjabDoor.LT

/- The laws' helpers: later, few, Same; a list of acts that is handed over. -/
import Derived.Test.YtcknocglaimcpaaWhZc
import Derived.Deep.Strs
import Derived.Carry
namespace Go.Proofs.Ytcknocglaimcpaa.WA
open Go.RowKit Go.Proofs.YtcknocglaimcpaaW.PrintWords Go.Proofs.YtcknocglaimcpaaW.PrintLast Go.Proofs.YtcknocglaimcpaaW.PrintMore
open Go.Proofs.Ytcknocglaimcpaa.PW Go.Proofs.Ytcknocglaimcpaa.Wh Go.Maps Go.ChangeShapes Go.WideShapes
set_option linter.unusedVariables false
set_option linter.unusedSimpArgs false
set_option maxHeartbeats 8000000
set_option maxRecDepth 100000
theorem cells31 : Try.prog.cellsOf 31 = 3 := by kernel_rfl
theorem cells3 : Try.prog.cellsOf 3 = 1 := by kernel_rfl
theorem cells9 : Try.prog.cellsOf 9 = 1 := by kernel_rfl
theorem laidOut : laidOutB Try.prog = true := by kernel_rfl
theorem wf_range {n : Int} (h : (Lit.int .i64 n).wf = true) : -9223372036854775808 ≤ n ∧ n ≤ 9223372036854775807 := by
  simp [Lit.wf, IntKind.min, IntKind.max, IntKind.signed, IntKind.bits] at h
  omega
theorem acts_open {H : Type} {enc : TypeId × Value → H} {W : World} {spare : Nat → Bool} {held : Bool} {fuel : Nat} {A : Option Addr} {n c : Nat} {x : DataW H × List MemPlace} (h : DataW.trod enc Try.prog W 0 spare held fuel 22 [.slice A n c] = some x) :
    ∃ l : List S31, l.length = n ∧ n ≤ c ∧ Kd.C k31 W A n l ∧ ∀ t ∈ l, (-9223372036854775808 ≤ t.f0 ∧ t.f0 ≤ 9223372036854775807) ∧ (-9223372036854775808 ≤ t.f2 ∧ t.f2 ≤ 9223372036854775807) := by
  rcases Go.Deep.open_slice Try.underlying22 h with ⟨h1, _⟩ | ⟨a, len, cap, m, n', D, Pl, h1, hb, hl, hm, hmm, _, hx⟩
  · simp only [List.cons.injEq, Value.slice.injEq, and_true] at h1
    obtain ⟨rfl, rfl, rfl⟩ := h1
    exact ⟨[], rfl, Nat.le_refl _, ⟨rfl, Nat.zero_le _, fun h => absurd h (by decide)⟩, fun t ht => absurd ht (by simp)⟩
  · simp only [List.cons.injEq, Value.slice.injEq, and_true] at h1
    obtain ⟨rfl, rfl, rfl⟩ := h1
    have hlm : n ≤ m := by rw [hmm]; split <;> omega
    rw [cells31] at hx
    have each : ∀ i, i < n → ∃ t : S31, ∃ cs, cs.length = 3 ∧ k31.K W t cs ∧ (∀ j u, cs[j]? = some u → W.cell? (a.add (i * 3 + j)) = some u) ∧ (-9223372036854775808 ≤ t.f0 ∧ t.f0 ≤ 9223372036854775807) ∧ (-9223372036854775808 ≤ t.f2 ∧ t.f2 ≤ 9223372036854775807) := by
      intro i hi
      obtain ⟨cs, h2, h3⟩ := hx i (by omega)
      obtain ⟨_, hlen, hcell⟩ := World.cells?_some h2
      obtain ⟨y0, y1, y2, n2, _, _, e0, e1, e2⟩ := Go.Deep.trod_struct3 Try.underlying31 h3
      match cs, hlen with
      | [c0, c1, c2], _ =>
        obtain ⟨n0, g0, _, v0⟩ := DataW.trod_int Try.underlying3 e0
        obtain ⟨s1, g1, _, _⟩ := DataW.trod_string Try.underlying9 e1
        obtain ⟨p2, g2, _, v2⟩ := DataW.trod_int Try.underlying3 e2
        obtain rfl : c0 = .int .i64 n0 := by simpa [cells3] using g0
        obtain rfl : c1 = .string s1 := by simpa [cells9] using g1
        obtain rfl : c2 = .int .i64 p2 := by simpa [cells3] using g2
        refine ⟨⟨n0, s1, p2⟩, _, rfl, k31_mk W ⟨n0, s1, p2⟩, fun j u hu => ?_, ?_, ?_⟩
        · have hj : j < 3 := by
            rcases Nat.lt_or_ge j 3 with hj | hj
            · exact hj
            · rw [List.getElem?_eq_none (by exact hj)] at hu; cases hu
          have := hcell j hj
          rw [hu] at this
          rw [← this]
          rw [Go.Deep.add_add]
        · exact wf_range v0
        · exact wf_range v2
    haveI : Inhabited S31 := ⟨z31⟩
    obtain ⟨f, hf⟩ := Go.Deep.choose_lt each
    refine ⟨(List.range n).map f, by simp, hl, ⟨by simp, Nat.le_trans (Nat.le_trans hl hm) (by decide), fun _ => ⟨a, rfl, fun j p hp => ?_⟩⟩, ?_⟩
    · rw [List.getElem?_map] at hp
      obtain ⟨i, hi, rfl⟩ := Option.map_eq_some_iff.1 hp
      have hjn : j < n := by
        rcases Nat.lt_or_ge j n with hj | hj
        · exact hj
        · rw [List.getElem?_eq_none (by rw [List.length_range]; exact hj)] at hi; cases hi
      rw [List.getElem?_range hjn] at hi
      obtain rfl := Option.some.inj hi
      obtain ⟨cs, q1, q2, q3, _⟩ := hf j hjn
      exact ⟨cs, q1, q2, q3⟩
    · intro t ht
      obtain ⟨i, hi, rfl⟩ := List.mem_map.1 ht
      obtain ⟨cs, _, _, _, q4, q5⟩ := hf i (List.mem_range.1 hi)
      exact ⟨q4, q5⟩
def laterT (now step : Int) : Int := if step < -1000 ∨ step > 1000000000 then -1 else now + step
theorem later_calls (now step : Int) (h0 : 0 ≤ now) (h1 : now ≤ 1000000000) (w : World) : Calls Try.prog 9 #[.int .i64 now, .int .i64 step] w fun e w' => e = .returned (.int .i64 (laterT now step)) ∧ w' = w := by
  by_cases c3 : step < -1000
  · have c3b : decide (step < -1000) = true := decide_eq_true c3
    have HR : Aside0 (laterT now step = -1) := ⟨if_pos (.inl c3)⟩
    clear c3 h0 h1
    go_enter Try.func9, Try.ntmps9
    go_wp2
    go_ret
    exact ⟨by rw [HR.out]; rfl, rfl⟩
  · have c3b : decide (step < -1000) = false := decide_eq_false c3
    by_cases c4 : step > 1000000000
    · have c4b : decide (1000000000 < step) = true := decide_eq_true c4
      have HR : Aside0 (laterT now step = -1) := ⟨if_pos (.inr c4)⟩
      clear c3 c4 h0 h1
      go_enter Try.func9, Try.ntmps9
      go_wp2
      go_ret
      exact ⟨by rw [HR.out]; rfl, rfl⟩
    · have c4b : decide (1000000000 < step) = false := decide_eq_false c4
      have hw : wrap64 (now + step) = now + step := wrap64_is (by omega) (by omega)
      have HR : Aside0 (laterT now step = now + step) := ⟨if_neg (by omega)⟩
      clear c3 c4 h0 h1
      go_enter Try.func9, Try.ntmps9
      go_wp2
      go_ret
      exact ⟨by rw [HR.out]; show Ending.returned (.int .i64 (wrap64 (now + step))) = .returned (.int .i64 (now + step)); rw [hw], rfl⟩
theorem same_calls2 (w : World) (A B : Option Addr) (c d : Nat) (xs : List S38) (h1 : Kd.C k38 w A xs.length xs) (h2 : Kd.C k38 w B xs.length xs) (hl : xs.length ≤ 1000000) :
    Calls Try.prog 17 #[.slice A xs.length c, .slice B xs.length d] w fun e w' => e = .returned (.bool true) ∧ Below w.heap.size w w' := by
  have hu38 := Try.underlying38
  have H1 := Aside0.mk h1
  have H2 := Aside0.mk h2
  have HL := Aside0.mk hl
  clear h1 h2 hl
  go_enter Try.func17, Try.ntmps17
  go_wp2
  go_loopg [5] (xs.length) (fun kq v5 w' => ∃ i : Nat, v5 = .int .i64 i ∧ Aside0 (i + kq = xs.length) ∧ Aside0 (Below w.heap.size w w'))
  case atStart => exact ⟨0, rfl, ⟨by omega⟩, ⟨Below.refl _ _⟩⟩
  case round =>
    obtain ⟨i, rfl, HI, HB⟩ := hrel
    by_cases hi : i < xs.length
    case neg =>
      have hib : decide (i < xs.length) = false := decide_eq_false hi
      clear hi
      go_wp2
      go_ret
      exact ⟨rfl, HB.out⟩
    have hib : decide (i < xs.length) = true := decide_eq_true hi
    obtain ⟨ad, hA, c0, c1⟩ := at_T38 (Kd.C_below H1.out HB.out) (i : Int) (by omega) (by omega)
    obtain ⟨bd, hB, d0, d1⟩ := at_T38 (Kd.C_below H2.out HB.out) (i : Int) (by omega) (by omega)
    rw [Int.toNat_natCast] at c0 c1 d0 d1
    generalize rd_T38 xs (i : Int) = t at c0 c1 d0 d1
    have hw1 : Aside0 (wrap64 ((i : Int) + 1) = ((i + 1 : Nat) : Int)) := ⟨by rw [wrap64_is (by have := HL.out; omega) (by have := HL.out; omega)]; omega⟩
    have hir : (0 : Int) ≤ (i : Int) := by omega
    have hil : (i : Int) < (xs.length : Int) := by omega
    have HIL := Aside0.mk hi
    subst hA hB
    clear hi
    go_wp2
    go_quiet (fail)
    go_wp2
    go_roundg (gk - 1)
    case measure => have := HI.out; have := HIL.out; omega
    case rel => exact ⟨i + 1, by first | rw [hw1.out] | (push_cast; rfl), ⟨by have := HI.out; have := HIL.out; omega⟩, ⟨by repeat (first | (with_reducible exact HB.out) | (with_reducible apply pw_below_drewN) | (with_reducible apply below_drew1))⟩⟩
def fewG : List S31 → Int → Bool
  | [], s => decide (s ≤ 200000)
  | t :: l, s => if 1000 < t.f1.size then false else fewG l (if (t.f0 == 3) = true ∧ decide (0 < t.f2) = true ∧ decide (t.f2 ≤ 100000) = true then wrap64 (s + t.f2) else s)
def fewB (l : List S31) : Bool := if 250 < l.length then false else fewG l 0
theorem fewG_keys : ∀ (l : List S31) (s : Int), fewG l s = true → ∀ t ∈ l, t.f1.size ≤ 1000
  | [], _, _, t, ht => absurd ht (by simp)
  | x :: l, s, h, t, ht => by
    unfold fewG at h
    split at h
    · cases h
    · rcases List.mem_cons.1 ht with rfl | ht
      · omega
      · exact fewG_keys l _ h t ht
theorem fewB_true {l : List S31} (h : fewB l = true) : l.length ≤ 250 ∧ ∀ t ∈ l, t.f1.size ≤ 1000 := by
  unfold fewB at h
  split at h
  · cases h
  · exact ⟨by omega, fewG_keys l 0 h⟩
theorem few_calls (w : World) (A : Option Addr) (c : Nat) (l : List S31) (hC : Kd.C k31 w A l.length l) :
    Calls Try.prog 14 #[.slice A l.length c] w fun e w' => e = .returned (.bool (fewB l)) ∧ w' = w := by
  have H1 := Aside0.mk hC
  clear hC
  obtain ⟨fb, hfb⟩ : ∃ fb, fb = fewB l := ⟨_, rfl⟩
  rw [← hfb]
  have HFB := Aside0.mk hfb
  clear hfb
  by_cases hl : 250 < l.length
  · have hlb : decide (250 < l.length) = true := decide_eq_true hl
    have hlb2 : decide ((250 : Int) < (l.length : Int)) = true := decide_eq_true (by omega)
    have HR : Aside0 (fb = false) := ⟨by rw [HFB.out]; exact if_pos hl⟩
    clear hl
    go_enter Try.func14, Try.ntmps14
    go_wp2
    go_ret
    exact ⟨by rw [HR.out]; rfl, rfl⟩
  · have hlb : decide (250 < l.length) = false := decide_eq_false hl
    have hlb2 : decide ((250 : Int) < (l.length : Int)) = false := decide_eq_false (by omega)
    have HL := Aside0.mk hl
    have HF2 : Aside0 (fb = fewG l 0) := ⟨by rw [HFB.out]; exact if_neg hl⟩
    clear hl
    go_enter Try.func14, Try.ntmps14
    go_wp2
    go_loopg [3, 4] (l.length) (fun kq v3 v4 w' => ∃ (s : Int) (i : Nat), v3 = .int .i64 s ∧ v4 = .int .i64 i ∧ Aside0 (i + kq = l.length ∧ fewG (l.drop i) s = fb) ∧ Aside0 (w' = w))
    case atStart => exact ⟨0, 0, rfl, rfl, ⟨by omega, HF2.out.symm⟩, ⟨rfl⟩⟩
    case round =>
      obtain ⟨s, i, rfl, rfl, HI, HW⟩ := hrel
      obtain rfl := HW.out
      by_cases hi : i < l.length
      case neg =>
        have hib : decide (i < l.length) = false := decide_eq_false hi
        have HE : Aside0 (fb = decide (s ≤ 200000)) := ⟨by
          have h := HI.out.2
          rw [List.drop_of_length_le (by omega)] at h
          exact h.symm⟩
        clear hi
        go_wp2
        go_ret
        exact ⟨by rw [HE.out]; rfl, rfl⟩
      have hib : decide (i < l.length) = true := decide_eq_true hi
      obtain ⟨ad, hA, c0, c1, c2⟩ := at_T31 H1.out (i : Int) (by omega) (by omega)
      obtain ⟨x, hx⟩ : ∃ x, x = l[i] := ⟨_, rfl⟩
      have hrd : rd_T31 l (i : Int) = x := by
        unfold rd_T31
        rw [hx]
        simp [List.getD, hi]
      rw [hrd, Int.toNat_natCast] at c0 c1 c2
      have HX : Aside0 (fb = if 1000 < x.f1.size then false else fewG (l.drop (i + 1)) (if (x.f0 == 3) = true ∧ decide (0 < x.f2) = true ∧ decide (x.f2 ≤ 100000) = true then wrap64 (s + x.f2) else s)) := ⟨by
        have h := HI.out.2
        rw [List.drop_eq_getElem_cons hi, ← hx] at h
        exact h.symm⟩
      have hw1 : Aside0 (wrap64 ((i : Int) + 1) = ((i + 1 : Nat) : Int)) := ⟨by have := HL.out; rw [wrap64_is (by omega) (by omega)]; omega⟩
      have hir : (0 : Int) ≤ (i : Int) := by omega
      have hil : (i : Int) < (l.length : Int) := by omega
      have HIL := Aside0.mk hi
      subst hA
      clear hi hrd hx
      by_cases hz : 1000 < x.f1.size
      · have hzb : decide (1000 < x.f1.size) = true := decide_eq_true hz
        have hzb2 : decide ((1000 : Int) < (x.f1.size : Int)) = true := decide_eq_true (by omega)
        have HR : Aside0 (fb = false) := ⟨by rw [HX.out, if_pos hz]⟩
        clear hz
        go_wp2
        go_ret
        exact ⟨by rw [HR.out]; rfl, rfl⟩
      have hzb : decide (1000 < x.f1.size) = false := decide_eq_false hz
      have hzb2 : decide ((1000 : Int) < (x.f1.size : Int)) = false := decide_eq_false (by omega)
      have HZ : Aside0 (fewG (l.drop (i + 1)) (if (x.f0 == 3) = true ∧ decide (0 < x.f2) = true ∧ decide (x.f2 ≤ 100000) = true then wrap64 (s + x.f2) else s) = fb) := ⟨by rw [HX.out, if_neg hz]⟩
      clear hz
      obtain ⟨kb, hk⟩ : ∃ kb, (x.f0 == 3) = kb := ⟨_, rfl⟩
      obtain ⟨gb, hg⟩ : ∃ gb, decide (0 < x.f2) = gb := ⟨_, rfl⟩
      obtain ⟨lb, hl⟩ : ∃ lb, decide (x.f2 ≤ 100000) = lb := ⟨_, rfl⟩
      have hk2 : decide (x.f0 = 3) = kb := by rw [← hk]; exact (Bool.beq_eq_decide_eq _ _).symm
      have HKG := Aside0.mk (And.intro hk (And.intro hg hl))
      cases kb <;> cases gb <;> cases lb
      all_goals
        go_wp2
        go_roundg (gk - 1)
        case measure => have := HI.out.1; have := HIL.out; omega
        case rel => exact ⟨_, i + 1, rfl, by first | rw [hw1.out] | (push_cast; rfl), ⟨by have := HI.out.1; have := HIL.out; omega, by have h := HZ.out; rw [HKG.out.1, HKG.out.2.1, HKG.out.2.2] at h; first | exact h | (simpa using h)⟩, ⟨rfl⟩⟩
end Go.Proofs.Ytcknocglaimcpaa.WA

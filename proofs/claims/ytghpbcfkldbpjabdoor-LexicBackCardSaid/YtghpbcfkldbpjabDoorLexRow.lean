/- A list of tokens that is handed over, opened: at any world whose words can be read, the cells that the slice leads to are tokens. No conditions beyond those typed. -/
import Derived.Test.YtghpbcfkldbpjabDoorPLx0
import Derived.Deep.Strs
import Derived.Carry
namespace Go.Proofs.YtghpbcfkldbpjabDoor.LR
open Go.RowKit Go.Proofs.YtghpbcfkldbpjabDoorW.PrintWords Go.Proofs.YtghpbcfkldbpjabDoor.PL Go.ChangeShapes Go.WideShapes
set_option linter.unusedVariables false
theorem cells32 : Tryd.prog.cellsOf 32 = 3 := by kernel_rfl
theorem cells3 : Tryd.prog.cellsOf 3 = 1 := by kernel_rfl
theorem cells9 : Tryd.prog.cellsOf 9 = 1 := by kernel_rfl
theorem laidOut : laidOutB Tryd.prog = true := by kernel_rfl
theorem tokens_open {H : Type} {enc : TypeId × Value → H} {W : World} {spare : Nat → Bool} {held : Bool} {fuel : Nat} {A : Option Addr} {n c : Nat} {x : DataW H × List MemPlace} (h : DataW.trod enc Tryd.prog W 0 spare held fuel 22 [.slice A n c] = some x) :
    ∃ l : List S32, l.length = n ∧ n ≤ c ∧ Kd.C k32 W A n l := by
  rcases Go.Deep.open_slice Tryd.underlying22 h with ⟨h1, _⟩ | ⟨a, len, cap, m, n', D, Pl, h1, hb, hl, hm, hmm, _, hx⟩
  · simp only [List.cons.injEq, Value.slice.injEq, and_true] at h1
    obtain ⟨rfl, rfl, rfl⟩ := h1
    exact ⟨[], rfl, Nat.le_refl _, rfl, Nat.zero_le _, fun h => absurd h (by decide)⟩
  · simp only [List.cons.injEq, Value.slice.injEq, and_true] at h1
    obtain ⟨rfl, rfl, rfl⟩ := h1
    have hlm : n ≤ m := by rw [hmm]; split <;> omega
    rw [cells32] at hx
    have each : ∀ i, i < n → ∃ t : S32, ∃ cs, cs.length = 3 ∧ k32.K W t cs ∧ ∀ j u, cs[j]? = some u → W.cell? (a.add (i * 3 + j)) = some u := by
      intro i hi
      obtain ⟨cs, h2, h3⟩ := hx i (by omega)
      obtain ⟨_, hlen, hcell⟩ := World.cells?_some h2
      obtain ⟨y0, y1, y2, n2, _, _, e0, e1, e2⟩ := Go.Deep.trod_struct3 Tryd.underlying32 h3
      match cs, hlen with
      | [c0, c1, c2], _ =>
        obtain ⟨n0, g0, _, _⟩ := DataW.trod_int Tryd.underlying3 e0
        obtain ⟨s1, g1, _, _⟩ := DataW.trod_string Tryd.underlying9 e1
        obtain ⟨p2, g2, _, _⟩ := DataW.trod_int Tryd.underlying3 e2
        obtain rfl : c0 = .int .i64 n0 := by simpa [cells3] using g0
        obtain rfl : c1 = .string s1 := by simpa [cells9] using g1
        obtain rfl : c2 = .int .i64 p2 := by simpa [cells3] using g2
        refine ⟨⟨n0, s1, p2⟩, _, rfl, k32_mk W ⟨n0, s1, p2⟩, fun j u hu => ?_⟩
        have hj : j < 3 := by
          rcases Nat.lt_or_ge j 3 with hj | hj
          · exact hj
          · rw [List.getElem?_eq_none (by exact hj)] at hu; cases hu
        have := hcell j hj
        rw [hu] at this
        rw [← this]
        rw [Go.Deep.add_add]
    haveI : Inhabited S32 := ⟨z32⟩
    obtain ⟨f, hf⟩ := Go.Deep.choose_lt each
    refine ⟨(List.range n).map f, by simp, hl, by simp, Nat.le_trans (Nat.le_trans hl hm) (by decide), fun _ => ⟨a, rfl, fun j p hp => ?_⟩⟩
    rw [List.getElem?_map] at hp
    obtain ⟨i, hi, rfl⟩ := Option.map_eq_some_iff.1 hp
    have hjn : j < n := by
      rcases Nat.lt_or_ge j n with hj | hj
      · exact hj
      · rw [List.getElem?_eq_none (by rw [List.length_range]; exact hj)] at hi; cases hi
    rw [List.getElem?_range hjn] at hi
    obtain rfl := Option.some.inj hi
    exact hf j hjn
end Go.Proofs.YtghpbcfkldbpjabDoor.LR

/- A row of timers, laid anew. -/
import Derived.Test.YtcknocglaimcpaaWhU
import Derived.Shelf.GgSortFunc.RowK
namespace Go.Proofs.Ytcknocglaimcpaa.WA
open Go.RowKit Go.Proofs.YtcknocglaimcpaaW.PrintWords Go.Proofs.YtcknocglaimcpaaW.PrintLast Go.Proofs.YtcknocglaimcpaaW.PrintMore
open Go.Proofs.Ytcknocglaimcpaa.PW Go.Proofs.Ytcknocglaimcpaa.Wh Go.Maps Go.Sort
set_option linter.unusedVariables false
set_option linter.unusedSimpArgs false
instance instS38 : Inhabited S38 := ⟨z38⟩
def encT (x : S38) : List Value := [.string x.f0, .int .i64 x.f1]
def fl : List S38 → List Value
  | [] => []
  | x :: l => .string x.f0 :: .int .i64 x.f1 :: fl l
theorem fl_length : ∀ l, (fl l).length = l.length * 2
  | [] => rfl
  | x :: l => by unfold fl; simp [fl_length l]; omega
theorem fl_get : ∀ (l : List S38) (i : Nat), (fl l)[i]! = (encT l[i / 2]!)[i % 2]! ∨ l.length * 2 ≤ i
  | [], i => .inr (by simp)
  | x :: l, 0 => .inl rfl
  | x :: l, 1 => .inl rfl
  | x :: l, i + 2 => by
    rcases fl_get l i with h | h
    · left
      have e1 : (i + 2) / 2 = i / 2 + 1 := by omega
      have e2 : (i + 2) % 2 = i % 2 := by omega
      rw [e1, e2]
      simpa [fl] using h
    · right
      simp
      omega
theorem flat_fl (d : Array S38) : flatK encT 2 d = (fl d.toList).toArray := by
  refine ext_get! (by simp [fl_length]) fun t ht => ?_
  have ht' : t < d.size * 2 := by simpa using ht
  rw [get_flatK _ _ _ t ht']
  rcases fl_get d.toList t with h | h
  · simp at h ⊢
    rw [h, Array.getElem!_eq_getD, Array.getD_eq_getD_getElem?]
  · simp at h
    omega
theorem many_all (F : Array Value) (vs : List Value) (h : F.size = vs.length) : setMany F 0 vs = vs.toArray := by
  refine ext_get! (by simp [h]) fun t ht => ?_
  have ht' : t < F.size := by simpa using ht
  rw [get_setMany _ _ _ t ht', if_pos ⟨Nat.zero_le _, by omega⟩]
  simp
theorem putRow_fl (w : World) (g : Nat) (d d' : Array S38) (h : HoldsK encT 2 w g 0 d) (hs : d'.size = d.size) : putRowK encT 2 w g 0 d' = w.setCells g 0 (fl d'.toList) := by
  have h1 := setCells_putRow w g 0 (fl d'.toList) 0 (flatK encT 2 d) (by simp [fl_length, hs])
  rw [putRow_self id w g 0 _ h, many_all _ _ (by simp [fl_length, hs])] at h1
  unfold putRowK
  rw [flat_fl]
  exact h1.symm
/-- A row whose elements from one on are laid anew. -/
theorem R_fill {base g cap n : Nat} {ok : Nat → Prop} : ∀ (ys : List S38) (i : Nat) (W : World) (xs : List S38), ys.length + i = n → k38.R 38 W base ok (.slice (some ⟨g, 0, none⟩) n cap) xs →
    (∀ j, j < n * 2 → ∃ u, W.cell? ⟨g, j, none⟩ = some u) →
    k38.R 38 (W.setCells g (i * 2) (fl ys)) base ok (.slice (some ⟨g, 0, none⟩) n cap) (xs.take i ++ ys)
  | [], i, W, xs, hi, h, hc => by
    have hl : n = xs.length := (Kd.R_reads' h).1
    have e : i = xs.length := by simp at hi; omega
    simp only [fl, World.setCells, List.append_nil]
    rw [e, List.take_length]
    exact h
  | y :: ys, i, W, xs, hi, h, hc => by
    have hl : n = xs.length := (Kd.R_reads' h).1
    have hi2 : ys.length + 1 + i = n := by simpa using hi
    obtain ⟨u0, hu0⟩ := hc (i * 2) (by omega)
    obtain ⟨u1, hu1⟩ := hc (i * 2 + 1) (by omega)
    have hcc : ∀ (j : Nat) (u : Value), [u0, u1][j]? = some u → W.cell? ⟨g, ((i : Nat) : Int).toNat * k38.sz + j, none⟩ = some u := by
      intro j u hj
      rw [Int.toNat_natCast]
      match j with
      | 0 => simp at hj; subst hj; exact hu0
      | 1 => simp at hj; subst hj; exact hu1
      | j + 2 => simp at hj
    obtain ⟨hR, _⟩ := Kd.R_seg h ((i : Nat) : Int) (by omega) (by omega) (c := [u0, u1]) (seg := [.string y.f0, .int .i64 y.f1]) (j := 0) rfl hcc (show 0 + 2 ≤ 2 by decide) (x' := y) (okp := fun _ => False) (k38_mkM _ _ _ y) (fun _ hk => hk.elim)
    rw [Int.toNat_natCast] at hR
    have hc' : ∀ j, j < n * 2 → ∃ u, (W.setCells g (i * 2 + 0) [.string y.f0, .int .i64 y.f1]).cell? ⟨g, j, none⟩ = some u := by
      intro j hj
      by_cases e : j < i * 2 ∨ i * 2 + 2 ≤ j
      · obtain ⟨u, hu⟩ := hc j hj
        exact ⟨u, by rw [World.cell?_setCells_out _ _ _ _ _ (fun _ _ => by simpa using e)]; exact hu⟩
      · have hin := World.cell?_setCells_in g [.string y.f0, .int .i64 y.f1] (i * 2) W (fun k hk => by
          match k, hk with
          | 0, _ => rw [Nat.add_zero, hu0]; rfl
          | 1, _ => rw [hu1]; rfl)
        have hj2 : j = i * 2 + 0 ∨ j = i * 2 + 1 := by omega
        rcases hj2 with rfl | rfl
        · exact ⟨_, hin 0 (by simp)⟩
        · exact ⟨_, hin 1 (by simp)⟩
    have ih := R_fill ys (i + 1) _ (xs.set i y) (by omega) hR hc'
    have e1 : W.setCells g (i * 2) (fl (y :: ys)) = (W.setCells g (i * 2 + 0) [.string y.f0, .int .i64 y.f1]).setCells g ((i + 1) * 2) (fl ys) := by
      rw [show (i + 1) * 2 = i * 2 + 1 + 1 by omega]; rfl
    have e2 : xs.take i ++ y :: ys = (xs.set i y).take (i + 1) ++ ys := by
      rw [List.take_succ_eq_append_getElem (by rw [List.length_set]; omega), List.getElem_set_self, List.append_assoc, List.take_set_of_le (Nat.le_refl i)]
      rfl
    rw [e1, e2]
    exact ih
/-- The row's cells, as the sort wants them. -/
theorem R_cells {w : World} {base g cap n : Nat} {ok : Nat → Prop} {xs : List S38} (h : k38.R 38 w base ok (.slice (some ⟨g, 0, none⟩) n cap) xs) (hn : 0 < xs.length) : HoldsK encT 2 w g 0 xs.toArray ∧ g < w.heap.size ∧ ∀ j, j < n * 2 → ∃ u, w.cell? ⟨g, j, none⟩ = some u := by
  obtain ⟨hl, _, hC⟩ := Kd.R_reads' h
  obtain ⟨g', cap', he, _, hlt, cells, hcb⟩ := Kd.R_form h hn
  obtain rfl : g = g' := by injection he with h1; injection h1 with h1; injection h1
  have hat : ∀ t, t < xs.length * 2 → w.cell? ⟨g, t, none⟩ = some ((encT xs[t / 2]!)[t % 2]!) := by
    intro t ht
    obtain ⟨ad, hA, c0, c1⟩ := at_T38 hC ((t / 2 : Nat) : Int) (by omega) (by omega)
    obtain rfl : ad = ⟨g, 0, none⟩ := (Option.some.inj hA).symm
    have hrd : rd_T38 xs ((t / 2 : Nat) : Int) = xs[t / 2]! := by
      unfold rd_T38
      rw [Int.toNat_natCast, List.getElem!_eq_getElem?_getD]
      rw [List.getD_eq_getElem?_getD, List.getElem?_eq_getElem (by omega)]
      rfl
    rw [hrd, Int.toNat_natCast, add_z] at c0 c1
    rcases Nat.mod_two_eq_zero_or_one t with e | e
    · have e2 : t / 2 * 2 = t := by omega
      rw [e2] at c0
      rw [e]
      exact c0
    · have e2 : t / 2 * 2 + 1 = t := by omega
      rw [e2] at c1
      rw [e]
      exact c1
  refine ⟨?_, hlt, fun j hj => ⟨_, hat j (by omega)⟩⟩
  intro t ht
  have ht' : t < xs.length * 2 := by simpa using ht
  rw [get_flatK _ _ _ t (by simpa using ht), Nat.zero_add]
  refine ⟨?_, blk_frozen hcb _⟩
  rw [hat t ht']
  simp
end Go.Proofs.Ytcknocglaimcpaa.WA

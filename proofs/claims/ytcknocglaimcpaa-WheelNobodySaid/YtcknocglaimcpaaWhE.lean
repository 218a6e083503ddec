/- clear on a row of timers; what slices.DeleteFunc keeps. -/
import Derived.Test.YtcknocglaimcpaaWhD
namespace Go.Proofs.Ytcknocglaimcpaa.WA
open Go.RowKit Go.Proofs.YtcknocglaimcpaaW.PrintWords Go.Proofs.YtcknocglaimcpaaW.PrintLast Go.Proofs.YtcknocglaimcpaaW.PrintMore
open Go.Proofs.Ytcknocglaimcpaa.PW Go.Proofs.Ytcknocglaimcpaa.Wh
set_option linter.unusedVariables false
set_option linter.unusedSimpArgs false
set_option maxHeartbeats 8000000
set_option maxRecDepth 100000
/-- So many timers without content, as cells. -/
def zs : Nat → List Value
  | 0 => []
  | n + 1 => .string ⟨#[]⟩ :: .int .i64 0 :: zs n
theorem zs_length : ∀ n, (zs n).length = n * 2
  | 0 => rfl
  | n + 1 => by unfold zs; simp [zs_length n]; omega
theorem zs_get : ∀ (n i : Nat) (h : i < (zs n).length), (zs n)[i] = if i % 2 = 0 then .string ⟨#[]⟩ else .int .i64 0
  | 0, i, h => by simp [zs] at h
  | n + 1, 0, h => by simp [zs]
  | n + 1, 1, h => by simp [zs]
  | n + 1, i + 2, h => by
    have := zs_get n i (by simpa [zs] using h)
    simp only [zs, List.getElem_cons_succ]
    rw [this]
    have e : (i + 2) % 2 = i % 2 := by omega
    rw [e]
theorem zero_cells (n : Nat) : (Builtin.zeroCells #[.string ⟨#[]⟩, .int .i64 0] n).toList = zs n := by
  apply List.ext_getElem
  · simp [Builtin.zeroCells, zs_length]
  · intro i h1 h2
    rw [zs_get]
    simp [Builtin.zeroCells]
    rcases Nat.mod_two_eq_zero_or_one i with e | e <;> simp [e]
theorem zs_one : ∀ n, ∀ v ∈ zs n, v.oneCell' = true
  | 0, v, h => by simp [zs] at h
  | n + 1, v, h => by
    simp only [zs, List.mem_cons] at h
    rcases h with rfl | rfl | h
    · rfl
    · rfl
    · exact zs_one n v h
theorem run_clear_two (w : World) (ty : TypeId) (b o n c : Nat) (hn : 0 < n)
    (hc : ∀ j, j < n * 2 → (w.cell? ⟨b, o + j, none⟩).isSome = true) (hf : ∀ j, j < n * 2 → w.frozen? ⟨b, o + j, none⟩ = false) :
    (Builtin.clear_ #[35] ty #[.slice (some ⟨b, o, none⟩) n c]).run Try.prog w = .ok (.tuple #[]) (w.setCells b o (zs n)) := by
  have hst := run_storeCells_cells (P := Try.prog) b o (zs n) 0 w (by rw [zs_length]; simpa using hc) (by rw [zs_length]; simpa using hf) (fun v hv => zs_one n v hv)
  simp only [Nat.add_zero] at hst
  obtain ⟨m, rfl⟩ : ∃ m, n = m + 1 := ⟨n - 1, by omega⟩
  have hv : ∀ w, (zeroValue 38).run Try.prog w = .ok (.agg #[.string ⟨#[]⟩, .int .i64 0]) w := fun w => by kernel_rfl
  have hz := zero_cells (m + 1)
  simp [Builtin.clear_, run_underlying Try.underlying35, hv, Value.cells, hz, hst]
/-- A row whose elements from one on are cleared. -/
theorem R_zero {base g cap n : Nat} {ok : Nat → Prop} : ∀ (m i : Nat) (W : World) (xs : List S38), n - i = m → i ≤ n → k38.R 38 W base ok (.slice (some ⟨g, 0, none⟩) n cap) xs →
    (∀ j, j < n * 2 → ∃ u, W.cell? ⟨g, j, none⟩ = some u) →
    k38.R 38 (W.setCells g (i * 2) (zs m)) base ok (.slice (some ⟨g, 0, none⟩) n cap) (xs.take i ++ List.replicate m z38)
  | 0, i, W, xs, hm, hi, h, hc => by
    have hl : n = xs.length := (Kd.R_reads' h).1
    have e : i = xs.length := by omega
    simp only [zs, World.setCells, List.replicate_zero, List.append_nil]
    rw [e, List.take_length]
    exact h
  | m + 1, i, W, xs, hm, hi, h, hc => by
    have hl : n = xs.length := (Kd.R_reads' h).1
    obtain ⟨u0, hu0⟩ := hc (i * 2) (by omega)
    obtain ⟨u1, hu1⟩ := hc (i * 2 + 1) (by omega)
    have hcc : ∀ (j : Nat) (u : Value), [u0, u1][j]? = some u → W.cell? ⟨g, ((i : Nat) : Int).toNat * k38.sz + j, none⟩ = some u := by
      intro j u hj
      rw [Int.toNat_natCast]
      match j with
      | 0 => simp at hj; subst hj; exact hu0
      | 1 => simp at hj; subst hj; exact hu1
      | j + 2 => simp at hj
    obtain ⟨hR, _⟩ := Kd.R_seg h ((i : Nat) : Int) (by omega) (by omega) (c := [u0, u1]) (seg := [.string ⟨#[]⟩, .int .i64 0]) (j := 0) rfl hcc (by decide) (x' := z38) (okp := fun _ => False) (k38_mkM _ _ _ z38) (fun _ hk => hk.elim)
    rw [Int.toNat_natCast] at hR
    have hc' : ∀ j, j < n * 2 → ∃ u, (W.setCells g (i * 2 + 0) [.string ⟨#[]⟩, .int .i64 0]).cell? ⟨g, j, none⟩ = some u := by
      intro j hj
      by_cases e : j < i * 2 ∨ i * 2 + 2 ≤ j
      · obtain ⟨u, hu⟩ := hc j hj
        exact ⟨u, by rw [World.cell?_setCells_out _ _ _ _ _ (fun _ _ => by simpa using e)]; exact hu⟩
      · have hin := World.cell?_setCells_in g [.string ⟨#[]⟩, .int .i64 0] (i * 2) W (fun k hk => by
          match k, hk with
          | 0, _ => rw [Nat.add_zero, hu0]; rfl
          | 1, _ => rw [hu1]; rfl)
        have hj2 : j = i * 2 + 0 ∨ j = i * 2 + 1 := by omega
        rcases hj2 with rfl | rfl
        · exact ⟨_, hin 0 (by decide)⟩
        · exact ⟨_, hin 1 (by decide)⟩
    have ih := R_zero m (i + 1) _ (xs.set i z38) (by omega) (by omega) hR hc'
    have e1 : W.setCells g (i * 2) (zs (m + 1)) = (W.setCells g (i * 2 + 0) [.string ⟨#[]⟩, .int .i64 0]).setCells g ((i + 1) * 2) (zs m) := by
      rw [show (i + 1) * 2 = i * 2 + 1 + 1 by omega]; rfl
    have e2 : xs.take i ++ List.replicate (m + 1) z38 = (xs.set i z38).take (i + 1) ++ List.replicate m z38 := by
      rw [List.replicate_succ, List.take_succ_eq_append_getElem (by rw [List.length_set]; omega), List.getElem_set_self, List.append_assoc, List.take_set_of_le (Nat.le_refl i)]
      rfl
    rw [e1, e2]
    exact ih
end Go.Proofs.Ytcknocglaimcpaa.WA

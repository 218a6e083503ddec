/- sort. -/
import Derived.Test.YtcknocglaimcpaaWhV
import Derived.Test.YtcknocglaimcpaaLays
namespace Go.Proofs.Ytcknocglaimcpaa.WA
open Go.RowKit Go.Proofs.YtcknocglaimcpaaW.PrintWords Go.Proofs.YtcknocglaimcpaaW.PrintLast Go.Proofs.YtcknocglaimcpaaW.PrintMore
open Go.Proofs.Ytcknocglaimcpaa.PW Go.Proofs.Ytcknocglaimcpaa.Wh Go.Maps Go.Sort
set_option linter.unusedVariables false
set_option linter.unusedSimpArgs false
set_option maxHeartbeats 8000000
set_option maxRecDepth 100000
theorem bl_eq : ∀ x y, Op.bytesLess x y = bl x y
  | _, [] => by simp [Op.bytesLess, bl]
  | [], _ :: _ => rfl
  | a :: x, b :: y => by
    have := bl_eq x y
    simp only [Op.bytesLess, bl, this]
def toT (x : S38) : Tm := (x.f0, x.f1)
theorem of_toT (x : S38) : ofT (toT x) = x := rfl
theorem to_ofT (t : Tm) : toT (ofT t) = t := rfl
theorem lt_tl (x y : S38) : ltOf cT x y = true ↔ tl (toT x) (toT y) := by
  have hb : bl x.f0.data.toList y.f0.data.toList = Op.bytesLess x.f0.toList y.f0.toList := by rw [bl_eq, ByteArray.toList_eq, ByteArray.toList_eq]
  unfold ltOf tl toT
  simp only [decide_eq_true_eq, hb]
  unfold cT cI cS
  rcases Int.lt_trichotomy x.f1 y.f1 with h | h | h
  · simp [h]
  · rw [h]
    simp only [Int.lt_irrefl, if_false, false_or, true_and, ne_eq, not_true_eq_false]
    split
    · next h1 => simp [h1]
    · next h1 => split <;> simp [h1]
  · have h1 : ¬ x.f1 < y.f1 := by omega
    have h2 : x.f1 ≠ y.f1 := by omega
    simp [h, h1, h2]
theorem lt_no (x y : S38) : ltOf cT x y = false ↔ ¬ tl (toT x) (toT y) := by
  rw [← lt_tl]; simp
theorem swo : SWO (ltOf cT) where
  irrefl x := (lt_no x x).2 (tl_irrefl _)
  trans x y z h1 h2 := (lt_tl x z).2 (tl_trans ((lt_tl x y).1 h1) ((lt_tl y z).1 h2))
  ntrans x y z h1 h2 := by
    rw [lt_no] at *
    intro h
    rcases tl_cases (toT x) (toT y) with e | e | e
    · exact h1 e
    · rw [e] at h; exact h2 h
    · exact h2 (tl_trans e h)
theorem lt_total (x y : S38) (h1 : ltOf cT x y = false) (h2 : ltOf cT y x = false) : x = y := by
  rw [lt_no] at *
  rcases tl_cases (toT x) (toT y) with e | e | e
  · exact absurd e h1
  · exact congrArg ofT e
  · exact absurd e h2
theorem cmp_lays (blk off size : Nat) (w : World) : CmpLays Try.prog 33 #[] encT 2 cT blk off size w := fun _ _ _ _ x y => less_calls x y _
theorem isAgg38 (w : World) : (isAgg 38).run Try.prog w = .ok true w := by kernel_rfl
theorem size38 (w : World) : (Go.sizeOf 38).run Try.prog w = .ok 2 w := by kernel_rfl
/-- The order of the library's sort is the order of sortT. -/
theorem sorted_is (xs : List Tm) (hn : xs.Nodup) (d' : Array S38) (hp : PermIn 0 (xs.map ofT).toArray.size (xs.map ofT).toArray d') (hs : SortedIn (ltOf cT) 0 (xs.map ofT).toArray.size d') : d'.toList = (sortT xs).map ofT := by
  have hsz : d'.size = xs.length := by rw [hp.1]; simp
  have hperm : d'.toList.Perm (xs.map ofT) := by
    have := hp.2.2
    have e1 : (d'.extract 0 (xs.map ofT).toArray.size) = d' := by simp [← hsz]
    have e2 : ((xs.map ofT).toArray.extract 0 (xs.map ofT).toArray.size) = (xs.map ofT).toArray := by
      simp
      exact List.take_of_length_le (by simp)
    rw [e1, e2] at this
    exact this
  have hq : (d'.toList.map toT).Perm xs := by
    have := hperm.map toT
    rw [List.map_map] at this
    have e : toT ∘ ofT = id := funext to_ofT
    rw [e, List.map_id] at this
    exact this
  have hnd : (d'.toList.map toT).Nodup := hq.nodup_iff.2 hn
  have hso : So (d'.toList.map toT) := by
    unfold So
    rw [List.pairwise_iff_getElem]
    intro i j hi hj hij
    rw [List.length_map, Array.length_toList, hsz] at hi hj
    have h1 := hs i j (Nat.zero_le _) hij (by simpa using hj)
    rw [lt_no] at h1
    rw [List.getElem_map, List.getElem_map, Array.getElem_toList, Array.getElem_toList]
    rw [getElem!_pos d' j (by omega), getElem!_pos d' i (by omega)] at h1
    rcases tl_cases (toT d'[i]) (toT d'[j]) with e | e | e
    · exact e
    · have hpw := (List.pairwise_iff_getElem.1 hnd) i j (by simp; omega) (by simp; omega) hij
      exact absurd (by simp [e]) hpw
    · exact absurd e h1
  have he := so_eq _ _ hso (sortT_so xs hn) (fun t => by rw [hq.mem_iff, sortT_mem])
  rw [← he, List.map_map]
  have e : ofT ∘ toT = id := funext of_toT
  rw [e, List.map_id]
theorem sortT_length (xs : List Tm) : (sortT xs).length = xs.length := by
  induction xs with
  | nil => rfl
  | cons t l ih =>
    unfold sortT
    rw [List.length_append, List.length_cons, List.length_take, List.length_drop, List.length_cons, ← ih]
    have := ah_le t (sortT l)
    omega
theorem sortf_calls (w : World) (base : Nat) (ok : Nat → Prop) (v : Value) (xs : List Tm) (hR : k38.R 38 w base ok v (xs.map ofT)) (hn : xs.Nodup) (hl : xs.length ≤ 1000000) :
    Calls Try.prog 32 #[v, .func (.func 33) #[] #[]] w fun e w' => e = .returned (.tuple #[]) ∧ k38.R 38 w' base ok v ((sortT xs).map ofT) ∧ w.grownBy w' v.ownBlock := by
  by_cases hx : xs = []
  · subst hx
    obtain ⟨A, c, rfl, _, _⟩ := Kd.R_reads hR
    have hcon := AnyF.slices_SortFunc_none Try.laysSlsf_6 A c (.func (.func 33) #[] #[]) w
    change Calls Try.prog 32 _ _ _ at hcon
    refine hcon.mono ?_
    rintro e w' ⟨rfl, rfl⟩
    exact ⟨rfl, hR, grown_below (Below.refl _ _) _⟩
  · have hpos : 0 < (xs.map ofT).length := by rw [List.length_map]; exact List.length_pos_iff.2 hx
    obtain ⟨g, c, rfl, _, _, cells, hcb⟩ := Kd.R_form hR hpos
    obtain ⟨hH, hg, hcells⟩ := R_cells hR hpos
    have eg : ∀ args w, (callFunc 33 args).run Try.prog w = .ok (.enter 33 args) w := enters_of Try.func33 (by kernel_rfl) rfl
    have hcon := AnyQ.slices_SortFunc Try.laysSlsf_6 2 isAgg38 size38 encT (fun _ => rfl) (fun x v hv => by simp [encT] at hv; rcases hv with rfl | rfl <;> rfl) cT swo 33 #[] g 0 c (xs.map ofT).toArray w eg (cmp_lays g 0 _ w) hH hg (by simp; omega)
    change Calls Try.prog 32 _ _ _ at hcon
    have e0 : (xs.map ofT).toArray.size = (xs.map ofT).length := by simp
    rw [e0] at hcon
    refine hcon.mono ?_
    rintro e w' ⟨rfl, d', n, os, hp, hs, rfl⟩
    have hd := sorted_is xs hn d' (by simpa using hp) (by simpa using hs)
    have hds : d'.size = (xs.map ofT).toArray.size := hp.1
    have hw : sortWorldK encT 2 w g 0 n d' os = grow ((Sort.ahead w n).setCells g 0 (fl ((sortT xs).map ofT))) os := by
      unfold sortWorldK
      rw [putRow_fl (Sort.ahead w n) g (xs.map ofT).toArray d' hH hds, hd]
    rw [hw]
    have hR1 : k38.R 38 ((Sort.ahead w n).setCells g (0 * 2) (fl ((sortT xs).map ofT))) base ok (.slice (some ⟨g, 0, none⟩) (xs.map ofT).length c) ((xs.map ofT).take 0 ++ (sortT xs).map ofT) := by
      refine R_fill ((sortT xs).map ofT) 0 (Sort.ahead w n) (xs.map ofT) (by rw [List.length_map, List.length_map, sortT_length]; omega) (Kd.R_step hR (fun _ _ _ => rfl)) ?_
      intro j hj
      exact hcells j hj
    rw [Nat.zero_mul, List.take_zero, List.nil_append] at hR1
    refine ⟨rfl, ?_, ?_⟩
    · refine Kd.R_step hR1 (fun k _ hk => ?_)
      show (_ ++ os)[k]? = _
      rw [Array.getElem?_append_left hk]
    · have h1 : w.grownBy ((Sort.ahead w n).setCells g 0 (fl ((sortT xs).map ofT))) (some g) := by
        have h0 : w.grownBy (Sort.ahead w n) (some g) := ⟨rfl, rfl, rfl, Nat.le_refl _, fun _ _ _ => rfl⟩
        exact h0.trans (grown_cells g _ 0 (Sort.ahead w n))
      refine h1.trans ⟨rfl, rfl, rfl, ?_, ?_⟩
      · show _ ≤ (_ ++ os).size
        rw [Array.size_append]
        omega
      · intro i hi _
        show (_ ++ os)[i]? = _
        rw [Array.getElem?_append_left hi]
theorem sort_calls (w : World) (base : Nat) (ok : Nat → Prop) (v : Value) (xs : List Tm) (hR : k38.R 38 w base ok v (xs.map ofT)) (hn : xs.Nodup) (hl : xs.length ≤ 1000000) :
    Calls Try.prog 29 #[v] w fun e w' => e = .returned v ∧ k38.R 38 w' base ok v ((sortT xs).map ofT) ∧ w.grownBy w' v.ownBlock := by
  have hcall := sortf_calls w base ok v xs hR hn hl
  clear hR hn hl
  go_enter Try.func29, Try.ntmps29
  go_wp2_with (go_at_call 32; refine hcall.mono ?_; rintro e w' ⟨rfl, hb⟩; have HB := Aside0.mk hb; clear hb)
  go_ret
  exact ⟨rfl, HB.out⟩
end Go.Proofs.Ytcknocglaimcpaa.WA

/- awake. -/
import Derived.Test.YtcknocglaimcpaaWhY
namespace Go.Proofs.Ytcknocglaimcpaa.WA
open Go.RowKit Go.Proofs.YtcknocglaimcpaaW.PrintWords Go.Proofs.YtcknocglaimcpaaW.PrintLast Go.Proofs.YtcknocglaimcpaaW.PrintMore
open Go.Proofs.Ytcknocglaimcpaa.PW Go.Proofs.Ytcknocglaimcpaa.Wh Go.Maps
set_option linter.unusedVariables false
set_option linter.unusedSimpArgs false
set_option maxHeartbeats 8000000
set_option maxRecDepth 100000
def cutK (L : List Tm) (key : ByteArray) : List Tm := L.filter (fun t => !decide (t.1 = key))
def insL (L : List Tm) (key : ByteArray) (a : Int) : List Tm := (cutK L key).take (ah (key, a) (cutK L key)) ++ (key, a) :: (cutK L key).drop (ah (key, a) (cutK L key))
/-- Set, beside the list. -/
def setL (st : St) (L : List Tm) (key : ByteArray) (a : Int) : List Tm := if setE st key a = 0 then insL L key a else L
theorem setE_zero {st : St} {key : ByteArray} {a : Int} (h : setE st key a = 0) : key.size ≤ 100 ∧ st.now < a ∧ a ≤ far := by
  unfold setE at h
  split at h
  · omega
  · split at h
    · omega
    · omega
theorem rel_set {st : St} {L : List Tm} (h : Rel st L) (key : ByteArray) (a : Int) : Rel (setS st key a) (setL st L key a) := by
  unfold setL setS
  by_cases h0 : setE st key a = 0
  · obtain ⟨_, h1, h2⟩ := setE_zero h0
    rw [if_pos h0]
    by_cases hd : st.due key = some a
    · rw [if_neg (fun e => e.2 hd)]
      unfold insL cutK
      rw [set_same h hd]
      exact h
    · rw [if_pos ⟨h0, hd⟩]
      exact rel_setOk h key a h1 h2
  · rw [if_neg h0, if_neg (fun e => h0 e.1)]
    exact h
theorem setS_now (st : St) (key : ByteArray) (a : Int) : (setS st key a).now = st.now := by
  unfold setS
  split
  · exact dropS_now st key
  · rfl
theorem insL_mem {L : List Tm} {key : ByteArray} {a : Int} {t : Tm} (h : t ∈ insL L key a) : t = (key, a) ∨ t ∈ L := by
  unfold insL cutK at h
  rw [ins_mem, List.mem_filter] at h
  rcases h with h | h
  · exact .inl h
  · exact .inr h.1
theorem insL_length (L : List Tm) (key : ByteArray) (a : Int) : (insL L key a).length ≤ L.length + 1 := by
  unfold insL
  rw [List.length_append, List.length_cons, List.length_take, List.length_drop]
  have := List.length_filter_le (fun t : Tm => !decide (t.1 = key)) L
  have e : (cutK L key).length ≤ L.length := this
  omega
/-- A wheel in memory, with its list; older memory stays. -/
def AW (w0 w : World) (col : Nat → Nat) (b bm : Nat) (st : St) (L : List Tm) : Prop := WI w w0.heap.size col b bm st ∧ Rel st L ∧ (∀ t ∈ L, t.1.size ≤ 1000) ∧ L.length ≤ 300 ∧ Below w0.heap.size w0 w ∧ ∀ g, g < w0.heap.size → col g = 202
theorem AW.sm {w0 w : World} {col : Nat → Nat} {b bm : Nat} {st : St} {L : List Tm} (h : AW w0 w col b bm st L) : Sm L := ⟨Nat.le_trans h.2.2.2.1 (by decide), h.2.2.1⟩
theorem aw_set {w0 w : World} {col : Nat → Nat} {b bm : Nat} {st : St} {L : List Tm} (h : AW w0 w col b bm st L) (hL : L.length ≤ 299) (key : ByteArray) (a : Int) (hk : key.size ≤ 1000) :
    Calls Try.prog 10 #[.pointer (some ⟨b, 0, none⟩), .string key, .int .i64 a] w fun e w' => e = .returned (.int .i64 (setE st key a)) ∧ ∃ col', AW w0 w' col' b bm (setS st key a) (setL st L key a) ∧ Fr w w' w0.heap.size col col' b bm := by
  obtain ⟨h1, h2, h3, h4, h5, h6⟩ := h
  obtain ⟨kl, hkl⟩ := key_of hk
  refine (set_calls h1 key a hkl h2.lo (by rw [h2.ct]; omega) (flat_few (rel_len h2 (by omega)))).mono ?_
  rintro e w' ⟨rfl, col', q1, q2⟩
  refine ⟨rfl, col', ⟨q1, rel_set h2 key a, ?_, ?_, below_trans h5 q2.bl, fun g hg => (q2.co g (Nat.lt_of_lt_of_le hg h5.size) (by rw [h6 g hg]; decide)).trans (h6 g hg)⟩, q2⟩
  · intro t ht
    unfold setL at ht
    split at ht
    · rcases insL_mem ht with rfl | ht
      · exact hk
      · exact h3 t ht
    · exact h3 t ht
  · unfold setL
    split
    · have := insL_length L key a
      omega
    · omega
def kA : ByteArray := ⟨#[97]⟩
def kB : ByteArray := ⟨#[98]⟩
def kX : ByteArray := ⟨#[120]⟩
def s1 : St := setS (newS 0) kA 3
def s2 : St := setS s1 kB 2
def s3 : St := setS s2 kB 5
def s4 : St := setS s3 kX 0
theorem s1_e : setE (newS 0) kA 3 = 0 := by decide
theorem s2_e : setE s1 kB 2 = 0 := by decide
theorem s3_e : setE s2 kB 5 = 0 := by decide
theorem s4_e : setE s3 kX 0 = 110 := by decide
theorem l1 : setL (newS 0) [] kA 3 = [(kA, 3)] := by rw [setL, if_pos s1_e]; rfl
theorem l2 : setL s1 [(kA, 3)] kB 2 = [(kB, 2), (kA, 3)] := by rw [setL, if_pos s2_e]; rfl
theorem l3 : setL s2 [(kB, 2), (kA, 3)] kB 5 = [(kA, 3), (kB, 5)] := by rw [setL, if_pos s3_e]; rfl
theorem l4 : setL s3 [(kA, 3), (kB, 5)] kX 0 = [(kA, 3), (kB, 5)] := by rw [setL, if_neg (by rw [s4_e]; decide)]
theorem s4_now : s4.now = 0 := by unfold s4 s3 s2 s1; rw [setS_now, setS_now, setS_now, setS_now]; rfl
theorem aw_skip {w0 w : World} {col : Nat → Nat} {b bm : Nat} (h : AW w0 w col b bm s4 [(kA, 3), (kB, 5)]) :
    Calls Try.prog 16 #[.pointer (some ⟨b, 0, none⟩), .int .i64 4] w fun e w' => ∃ A C col' st', e = .returned (.tuple #[.slice A 1 C, .int .i64 0]) ∧ k38.R 38 w' w.heap.size (fun g => col' g = 203) (.slice A 1 C) [⟨kA, 3⟩] ∧ AW w0 w' col' b bm st' [(kB, 5)] ∧ st'.now = 4 := by
  obtain ⟨h1, h2, h3, h4, h5, h6⟩ := h
  refine (skip_calls h1 h2 ⟨by decide, h3⟩ 4 (by decide)).mono ?_
  rintro e w' ⟨v, col', rfl, r1, r2, r3⟩
  obtain ⟨q1, q2, q3⟩ := rel_skip 4 h2
  rw [s4_now] at q1 q2 q3
  have e1 : pre (min (0 + ((4 : Nat) : Int)) far) [(kA, 3), (kB, 5)] = 1 := by decide
  rw [e1] at q1 q2
  have e2 : [(kA, (3 : Int)), (kB, 5)].take 1 = [(kA, 3)] := rfl
  have e3 : [(kA, (3 : Int)), (kB, 5)].drop 1 = [(kB, 5)] := rfl
  rw [e2] at q2
  rw [e3] at q1
  rw [q2] at r1
  obtain ⟨A, C, rfl⟩ := Kd.R_slice r1
  exact ⟨A, C, col', skipS 4 s4, rfl, r1, ⟨r2, q1, fun t ht => h3 t (List.mem_cons_of_mem _ ht), by decide, below_trans h5 r3.bl, fun g hg => (r3.co g (Nat.lt_of_lt_of_le hg h5.size) (by rw [h6 g hg]; decide)).trans (h6 g hg)⟩, by rw [q3]; decide⟩
theorem aw_tick {w0 w : World} {col : Nat → Nat} {b bm : Nat} {st : St} (h : AW w0 w col b bm st [(kB, 5)]) (hn : st.now = 4) {B : Nat} {A0 : Option Addr} {C0 : Nat} (hR : k38.R 38 w B (fun g => col g = 203) (.slice A0 1 C0) [⟨kA, 3⟩]) :
    Calls Try.prog 12 #[.pointer (some ⟨b, 0, none⟩)] w fun e w' => ∃ C g0 g, e = .returned (.slice (some ⟨g, 0, none⟩) 1 C) ∧ Below w0.heap.size w0 w' ∧ A0 = some ⟨g0, 0, none⟩ ∧ w'.cell? ⟨g0, 0, none⟩ = some (.string ⟨#[97]⟩) ∧ w'.cell? ⟨g0, 1, none⟩ = some (.int .i64 3) ∧ w'.cell? ⟨g, 0, none⟩ = some (.string ⟨#[98]⟩) ∧ w'.cell? ⟨b, 0, none⟩ = some (.bool true) ∧ w'.cell? ⟨b, 1, none⟩ = some (.int .i64 5) := by
  obtain ⟨h1, h2, h3, h4, h5, h6⟩ := h
  refine (tick_calls h1 h2 ⟨by decide, h3⟩).mono ?_
  rintro e w' ⟨v, col', rfl, r1, ⟨D', cs', r2⟩, r3⟩
  obtain ⟨q1, q2, q3⟩ := rel_tick h2 (by rw [hn]; decide)
  rw [hn] at q2 q3
  have e1 : pre (4 + 1) [(kB, 5)] = 1 := by decide
  rw [e1] at q2
  have e2 : [(kB, (5 : Int))].take 1 = [(kB, 5)] := rfl
  rw [e2] at q2
  rw [q2] at r1
  obtain ⟨g, C, rfl, _, _, _⟩ := Kd.R_form r1 (by decide)
  obtain ⟨g0, C1, e0, _, _, _⟩ := Kd.R_form hR (by decide)
  obtain ⟨rfl, rfl⟩ : A0 = some ⟨g0, 0, none⟩ ∧ C0 = C1 := by injection e0 with a1 a2 a3; exact ⟨a1, a3⟩
  have hcb := r2.cb
  have hcm := r2.cm
  have hR' := Kd.R_step (w1 := w') hR (fun g (hc : col g = 203) hlt => r3.sa g hlt (by omega) (fun e => by have := r3.co g hlt (by omega); rw [← e] at hcb; omega) (fun e => by have := r3.co g hlt (by omega); rw [← e] at hcm; omega))
  obtain ⟨ad0, hA0, c0, c1⟩ := at_T38 (Kd.R_reads' hR').2.2 0 (by decide) (by decide)
  obtain ⟨ad, hA, d0, d1⟩ := at_T38 (Kd.R_reads' r1).2.2 0 (by decide) (by decide)
  obtain rfl := (Option.some.inj hA0).symm
  obtain rfl := (Option.some.inj hA).symm
  rw [show ((0 : Int).toNat * 2) = 0 from rfl, add_z] at c0 c1 d0 d1
  have hnow : (tickS st).now = 5 := by rw [q3]; decide
  have hc1 := r2.c1
  rw [hnow] at hc1
  exact ⟨C, g0, g, rfl, below_trans h5 r3.bl, rfl, c0, c1, d0, r2.cell r2.c0, r2.cell hc1⟩
end Go.Proofs.Ytcknocglaimcpaa.WA

/- Set, where the timer stands so. -/
import Derived.Test.YtcknocglaimcpaaWhN
namespace Go.Proofs.Ytcknocglaimcpaa.WA
open Go.RowKit Go.Proofs.YtcknocglaimcpaaW.PrintWords Go.Proofs.YtcknocglaimcpaaW.PrintLast Go.Proofs.YtcknocglaimcpaaW.PrintMore
open Go.Proofs.Ytcknocglaimcpaa.PW Go.Proofs.Ytcknocglaimcpaa.Wh Go.Maps
set_option linter.unusedVariables false
set_option linter.unusedSimpArgs false
set_option maxHeartbeats 8000000
set_option maxRecDepth 100000
theorem set_as {w : World} {base : Nat} {col : Nat → Nat} {b bm n : Nat} {D : DataW Unit} {cs : Array Value} {st : St} (h : WAt w base col b bm n D cs st) (key : ByteArray) (a : Int) {kl : Lit} (hkey : keyOf Try.prog 9 (.string key) = some kl)
    (h0 : setE st key a = 0) (hd : st.due key = some a) :
    Calls Try.prog 10 #[.pointer (some ⟨b, 0, none⟩), .string key, .int .i64 a] w fun e w' => e = .returned (.int .i64 0) ∧ w' = w := by
  have hu := Try.underlying62
  have hn := none_at w b true (h.cell h.c0)
  have c1 := h.cell h.c1
  have c2 := h.cell h.c2
  have HO := Aside0.mk h.mp
  have HK := Aside0.mk hkey
  have hh : Maps.has D kl = true := by rw [(h.du.2 key kl hkey).1.1, hd]; rfl
  have HA := Aside0.mk ((h.du.2 key kl hkey).1.2 a hd)
  have hsz : key.size = 0 ↔ key.toList = [] := by
    rw [ByteArray.toList_eq, List.eq_nil_iff_length_eq_zero, Array.length_toList]; rfl
  have hx : ¬ (key.size = 0 ∨ key.size > 100 ∨ a > far) := fun e => by unfold setE at h0; rw [if_pos e] at h0; omega
  have hy : ¬ a ≤ st.now := fun e => by unfold setE at h0; rw [if_neg hx, if_pos e] at h0; omega
  have hze : key.toList.isEmpty = false := by cases hk : key.toList with | nil => exact absurd (.inl (hsz.2 hk)) hx | cons => rfl
  have hbb : decide (100 < key.size) = false := decide_eq_false (fun e => hx (.inr (.inl e)))
  have hbi : decide ((100 : Int) < (key.size : Int)) = false := decide_eq_false (fun e => hx (.inr (.inl (by omega))))
  have hbn : ¬ 100 < key.size := fun e => hx (.inr (.inl e))
  have hfb : decide (1000000000 < a) = false := decide_eq_false (fun e => hx (.inr (.inr e)))
  have hwb : decide (a ≤ st.now) = false := decide_eq_false hy
  clear hkey h h0 hd hsz hx hy
  go_enter Try.func10, Try.ntmps10
  go_wp2_with (first | (go_at_call 26; refine hn.mono ?_; rintro e w' ⟨rfl, rfl⟩) | (at_lookup; refine wpList_lookup_own_ok_int _ rfl _ _ 58 rfl 9 3 .i64 keyLaw Try.underlying58 Try.underlying3 (zeroE _) bm n D rfl HO.out _ kl rfl HK.out ?_; intro c hat hwc; rw [hh]; obtain rfl : c = a := (by rw [HA.out] at hat; injection hat with hat; injection hat with _ hat; exact hat.symm); clear hat hwc))
  all_goals
    go_ret
    exact ⟨rfl, rfl⟩
end Go.Proofs.Ytcknocglaimcpaa.WA

/- Set, where it is refused or changes nothing. -/
import Derived.Test.YtcknocglaimcpaaWhM
namespace Go.Proofs.Ytcknocglaimcpaa.WA
open Go.RowKit Go.Proofs.YtcknocglaimcpaaW.PrintWords Go.Proofs.YtcknocglaimcpaaW.PrintLast Go.Proofs.YtcknocglaimcpaaW.PrintMore
open Go.Proofs.Ytcknocglaimcpaa.PW Go.Proofs.Ytcknocglaimcpaa.Wh Go.Maps
set_option linter.unusedVariables false
set_option linter.unusedSimpArgs false
set_option maxHeartbeats 8000000
set_option maxRecDepth 100000
theorem set_no {w : World} {base : Nat} {col : Nat → Nat} {b bm n : Nat} {D : DataW Unit} {cs : Array Value} {st : St} (h : WAt w base col b bm n D cs st) (key : ByteArray) (a : Int) {kl : Lit} (hkey : keyOf Try.prog 9 (.string key) = some kl)
    (hno : setE st key a ≠ 0) :
    Calls Try.prog 10 #[.pointer (some ⟨b, 0, none⟩), .string key, .int .i64 a] w fun e w' => e = .returned (.int .i64 (setE st key a)) ∧ w' = w := by
  have hu := Try.underlying62
  have hn := none_at w b true (h.cell h.c0)
  have c1 := h.cell h.c1
  have c2 := h.cell h.c2
  have HO := Aside0.mk h.mp
  have HK := Aside0.mk hkey
  have hh : Maps.has D kl = (st.due key).isSome := (h.du.2 key kl hkey).1.1
  have hs : Maps.size D = st.cnt := h.du.1
  have HN := Aside0.mk hno
  clear hkey h hno
  have hsz : key.size = 0 ↔ key.toList = [] := by
    rw [ByteArray.toList_eq, List.eq_nil_iff_length_eq_zero, Array.length_toList]; rfl
  by_cases hz : key.toList = []
  · have HE : Aside0 (setE st key a = 2) := ⟨if_pos (.inl (hsz.2 hz))⟩
    clear hsz hs
    go_enter Try.func10, Try.ntmps10
    go_wp2_with (first | (go_at_call 26; refine hn.mono ?_; rintro e w' ⟨rfl, rfl⟩) | (at_lookup; refine wpList_lookup_own_ok_int _ rfl _ _ 58 rfl 9 3 .i64 keyLaw Try.underlying58 Try.underlying3 (zeroE _) bm n D rfl HO.out _ kl rfl HK.out ?_; intro c hat hwc; have HA := Aside0.mk hat; clear hat hwc) | (at_len; refine wpList_len_own _ rfl _ 58 rfl 9 3 Try.underlying58 _ bm n D rfl HO.out ?_))
    go_ret
    exact ⟨by rw [HE.out]; rfl, rfl⟩
  have hz0 : key.size ≠ 0 := fun e => hz (hsz.1 e)
  have hze : key.toList.isEmpty = false := by cases hk : key.toList with | nil => exact absurd hk hz | cons => rfl
  clear hsz hz
  by_cases hb : 100 < key.size
  · have HE : Aside0 (setE st key a = 2) := ⟨if_pos (.inr (.inl hb))⟩
    have hbb : decide (100 < key.size) = true := decide_eq_true hb
    clear hs hz0
    go_enter Try.func10, Try.ntmps10
    go_wp2_with (first | (go_at_call 26; refine hn.mono ?_; rintro e w' ⟨rfl, rfl⟩) | (at_lookup; refine wpList_lookup_own_ok_int _ rfl _ _ 58 rfl 9 3 .i64 keyLaw Try.underlying58 Try.underlying3 (zeroE _) bm n D rfl HO.out _ kl rfl HK.out ?_; intro c hat hwc; have HA := Aside0.mk hat; clear hat hwc) | (at_len; refine wpList_len_own _ rfl _ 58 rfl 9 3 Try.underlying58 _ bm n D rfl HO.out ?_))
    go_ret
    exact ⟨by rw [HE.out]; rfl, rfl⟩
  have hbb : decide (100 < key.size) = false := decide_eq_false hb
  by_cases hf : 1000000000 < a
  · have HE : Aside0 (setE st key a = 2) := ⟨if_pos (.inr (.inr hf))⟩
    have hfb : decide (1000000000 < a) = true := decide_eq_true hf
    clear hs hz0
    go_enter Try.func10, Try.ntmps10
    go_wp2_with (first | (go_at_call 26; refine hn.mono ?_; rintro e w' ⟨rfl, rfl⟩) | (at_lookup; refine wpList_lookup_own_ok_int _ rfl _ _ 58 rfl 9 3 .i64 keyLaw Try.underlying58 Try.underlying3 (zeroE _) bm n D rfl HO.out _ kl rfl HK.out ?_; intro c hat hwc; have HA := Aside0.mk hat; clear hat hwc) | (at_len; refine wpList_len_own _ rfl _ 58 rfl 9 3 Try.underlying58 _ bm n D rfl HO.out ?_))
    go_ret
    exact ⟨by rw [HE.out]; rfl, rfl⟩
  have hfb : decide (1000000000 < a) = false := decide_eq_false hf
  have HE1 : Aside0 (setE st key a = if a ≤ st.now then 110 else if st.due key = none ∧ st.cnt ≥ 200 then 3 else 0) := ⟨if_neg (by unfold far; omega)⟩
  by_cases hw : a ≤ st.now
  · have HE : Aside0 (setE st key a = 110) := ⟨by rw [HE1.out, if_pos hw]⟩
    have hwb : decide (a ≤ st.now) = true := decide_eq_true hw
    clear hs hz0
    go_enter Try.func10, Try.ntmps10
    go_wp2_with (first | (go_at_call 26; refine hn.mono ?_; rintro e w' ⟨rfl, rfl⟩) | (at_lookup; refine wpList_lookup_own_ok_int _ rfl _ _ 58 rfl 9 3 .i64 keyLaw Try.underlying58 Try.underlying3 (zeroE _) bm n D rfl HO.out _ kl rfl HK.out ?_; intro c hat hwc; have HA := Aside0.mk hat; clear hat hwc) | (at_len; refine wpList_len_own _ rfl _ 58 rfl 9 3 Try.underlying58 _ bm n D rfl HO.out ?_))
    go_ret
    exact ⟨by rw [HE.out]; rfl, rfl⟩
  have hwb : decide (a ≤ st.now) = false := decide_eq_false hw
  by_cases hd : st.due key = none ∧ st.cnt ≥ 200
  case neg =>
    have := HN.out
    rw [HE1.out, if_neg hw, if_neg hd] at this
    exact absurd rfl this
  have HE : Aside0 (setE st key a = 3) := ⟨by rw [HE1.out, if_neg hw, if_pos hd]⟩
  rw [hd.1] at hh
  have hcb : decide ((200 : Int) ≤ (Maps.size D : Int)) = true := decide_eq_true (by rw [hs]; omega)
  have hcb2 : decide (200 ≤ Maps.size D) = true := decide_eq_true (by rw [hs]; omega)
  have hh2 : Maps.has D kl = false := hh
  have hlen := HO.out.len Try.underlying58
  clear hs hz0 hd hh
  go_enter Try.func10, Try.ntmps10
  go_wp2_with (first | (go_at_call 26; refine hn.mono ?_; rintro e w' ⟨rfl, rfl⟩) | (at_lookup; refine wpList_lookup_own_ok_int _ rfl _ _ 58 rfl 9 3 .i64 keyLaw Try.underlying58 Try.underlying3 (zeroE _) bm n D rfl HO.out _ kl rfl HK.out ?_; intro c hat hwc; have HA := Aside0.mk hat; clear hat hwc) | (at_len; refine wpList_len_own _ rfl _ 58 rfl 9 3 Try.underlying58 _ bm n D rfl HO.out ?_))
  go_ret
  exact ⟨by rw [HE.out]; rfl, rfl⟩
end Go.Proofs.Ytcknocglaimcpaa.WA

/- Drop, where there is no such timer; Set, where it is refused or changes nothing. -/
import Derived.Test.YtcknocglaimcpaaWhL
import Derived.Maps.OwnOps
namespace Go.Proofs.Ytcknocglaimcpaa.WA
open Go.RowKit Go.Proofs.YtcknocglaimcpaaW.PrintWords Go.Proofs.YtcknocglaimcpaaW.PrintLast Go.Proofs.YtcknocglaimcpaaW.PrintMore
open Go.Proofs.Ytcknocglaimcpaa.PW Go.Proofs.Ytcknocglaimcpaa.Wh Go.Maps
set_option linter.unusedVariables false
set_option linter.unusedSimpArgs false
set_option maxHeartbeats 8000000
set_option maxRecDepth 100000
theorem drop_no {w : World} {base : Nat} {col : Nat → Nat} {b bm n : Nat} {D : DataW Unit} {cs : Array Value} {st : St} (h : WAt w base col b bm n D cs st) (key : ByteArray) {kl : Lit} (hkey : keyOf Try.prog 9 (.string key) = some kl) (hno : st.due key = none) :
    Calls Try.prog 20 #[.pointer (some ⟨b, 0, none⟩), .string key] w fun e w' => e = .returned (.bool false) ∧ w' = w := by
  have hu := Try.underlying62
  have hn := none_at w b true (h.cell h.c0)
  have c2 := h.cell h.c2
  have HO := Aside0.mk h.mp
  have HK := Aside0.mk hkey
  have hh : Maps.has D kl = false := by rw [(h.du.2 key kl hkey).1.1, hno]; rfl
  clear hkey hno h
  go_enter Try.func20, Try.ntmps20
  go_wp2_with (first | (go_at_call 26; refine hn.mono ?_; rintro e w' ⟨rfl, rfl⟩) | (at_lookup; refine wpList_lookup_own_ok_int _ rfl _ _ 58 rfl 9 3 .i64 keyLaw Try.underlying58 Try.underlying3 (zeroE _) bm n D rfl HO.out _ kl rfl HK.out ?_; intro c hat hwc; rw [hh]; have HA := Aside0.mk hat; clear hat hwc))
  go_ret
  exact ⟨rfl, rfl⟩
end Go.Proofs.Ytcknocglaimcpaa.WA

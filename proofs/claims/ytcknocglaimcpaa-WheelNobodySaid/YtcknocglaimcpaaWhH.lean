/- At on a made wheel. -/
import Derived.Test.YtcknocglaimcpaaWhG
import Derived.Maps.OwnSet
import Derived.Maps.OwnOps
namespace Go.Proofs.Ytcknocglaimcpaa.WA
open Go.RowKit Go.Proofs.YtcknocglaimcpaaW.PrintWords Go.Proofs.YtcknocglaimcpaaW.PrintLast Go.Proofs.YtcknocglaimcpaaW.PrintMore
open Go.Proofs.Ytcknocglaimcpaa.PW Go.Proofs.Ytcknocglaimcpaa.Wh Go.Maps
set_option linter.unusedVariables false
set_option linter.unusedSimpArgs false
set_option maxHeartbeats 8000000
set_option maxRecDepth 100000
theorem keyLaw : Keyed Try.prog 9 := string_keyed Try.underlying9
theorem zeroE (w : World) : (zeroValue 3).run Try.prog w = .ok (.int .i64 0) w := by kernel_rfl
/-- At on a made wheel: what the map holds at the key. -/
theorem at_yes (w : World) (b bm n : Nat) (D : DataW Unit) (key : ByteArray) (kl : Lit) (c0 : w.cell? ⟨b, 0, none⟩ = some (.bool true)) (c2 : w.cell? ⟨b, 2, none⟩ = some (.map (some bm)))
    (hown : w.ownsMap Try.prog 9 (plainElem (H := Unit) Try.prog 3) bm n D) (hkey : keyOf Try.prog 9 (.string key) = some kl) :
    Calls Try.prog 24 #[.pointer (some ⟨b, 0, none⟩), .string key] w fun e w' => ∃ c : Int, e = .returned (.tuple #[.int .i64 c, .bool (Maps.has D kl)]) ∧ D.atKey kl (.lit (.int .i64 0)) = .lit (.int .i64 c) ∧ w' = w := by
  have hu := Try.underlying62
  have hno := none_at w b true c0
  have HO := Aside0.mk hown
  have HK := Aside0.mk hkey
  clear hown hkey
  go_enter Try.func24, Try.ntmps24
  go_wp2_with (first | (go_at_call 26; refine hno.mono ?_; rintro e w' ⟨rfl, rfl⟩) | (at_lookup; refine wpList_lookup_own_ok_int _ rfl _ _ 58 rfl 9 3 .i64 keyLaw Try.underlying58 Try.underlying3 (zeroE _) bm n D rfl HO.out _ kl rfl HK.out ?_; intro c hat hwc; have HA := Aside0.mk hat; clear hat hwc))
  go_ret2
  exact ⟨c, rfl, HA.out, rfl⟩
end Go.Proofs.Ytcknocglaimcpaa.WA

/- At and Now, on a wheel in memory. -/
import Derived.Test.YtcknocglaimcpaaWhK
namespace Go.Proofs.Ytcknocglaimcpaa.WA
open Go.RowKit Go.Proofs.YtcknocglaimcpaaW.PrintWords Go.Proofs.YtcknocglaimcpaaW.PrintLast Go.Proofs.YtcknocglaimcpaaW.PrintMore
open Go.Proofs.Ytcknocglaimcpaa.PW Go.Proofs.Ytcknocglaimcpaa.Wh Go.Maps
set_option linter.unusedVariables false
set_option linter.unusedSimpArgs false
theorem now_calls {w : World} {base : Nat} {col : Nat → Nat} {b bm n : Nat} {D : DataW Unit} {cs : Array Value} {st : St} (h : WAt w base col b bm n D cs st) :
    Calls Try.prog 11 #[.pointer (some ⟨b, 0, none⟩)] w fun e w' => e = .returned (.int .i64 st.now) ∧ w' = w := now_at w b st.now (h.cell h.c0) (h.cell h.c1)
theorem at_calls {w : World} {base : Nat} {col : Nat → Nat} {b bm n : Nat} {D : DataW Unit} {cs : Array Value} {st : St} (h : WAt w base col b bm n D cs st) (key : ByteArray) {kl : Lit} (hkey : keyOf Try.prog 9 (.string key) = some kl) :
    Calls Try.prog 24 #[.pointer (some ⟨b, 0, none⟩), .string key] w fun e w' => e = .returned (.tuple #[.int .i64 ((st.due key).getD 0), .bool (st.due key).isSome]) ∧ w' = w := by
  refine (at_yes w b bm n D key kl (h.cell h.c0) (h.cell h.c2) h.mp hkey).mono ?_
  rintro e w' ⟨c, rfl, hc, rfl⟩
  obtain ⟨⟨h1, h2⟩, h3⟩ := h.du.2 key kl hkey
  refine ⟨?_, rfl⟩
  rw [h1]
  cases hd : st.due key with
  | none =>
    have := h3 hd
    rw [hc] at this
    obtain rfl : c = 0 := by injection this with this; injection this
    rfl
  | some a =>
    have := h2 a hd
    rw [hc] at this
    obtain rfl : c = a := by injection this with this; injection this
    rfl
end Go.Proofs.Ytcknocglaimcpaa.WA

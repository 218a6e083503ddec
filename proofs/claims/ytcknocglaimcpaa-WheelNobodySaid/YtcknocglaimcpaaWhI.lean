/- A wheel in memory. -/
import Derived.Test.YtcknocglaimcpaaWhH
namespace Go.Proofs.Ytcknocglaimcpaa.WA
open Go.RowKit Go.Proofs.YtcknocglaimcpaaW.PrintWords Go.Proofs.YtcknocglaimcpaaW.PrintLast Go.Proofs.YtcknocglaimcpaaW.PrintMore
open Go.Proofs.Ytcknocglaimcpaa.PW Go.Proofs.Ytcknocglaimcpaa.Wh Go.Maps
set_option linter.unusedVariables false
set_option linter.unusedSimpArgs false
def ofT (t : Tm) : S38 := ⟨t.1, t.2⟩
/-- What the map holds at a key, as a datum. -/
def dueIs (D : DataW Unit) (due : ByteArray → Option Int) (cnt : Nat) : Prop :=
  Maps.size D = cnt ∧ ∀ (k : ByteArray) (kl : Lit), keyOf Try.prog 9 (.string k) = some kl →
    (Maps.has D kl = (due k).isSome ∧ ∀ a, due k = some a → D.atKey kl (.lit (.int .i64 0)) = .lit (.int .i64 a)) ∧ (due k = none → D.atKey kl (.lit (.int .i64 0)) = .lit (.int .i64 0))
/-- A wheel lies at a block: its cells, its map, its slots, each of which owns its row; 'col' tells each block's owner. -/
structure WAt (w : World) (base : Nat) (col : Nat → Nat) (b bm n : Nat) (D : DataW Unit) (cs : Array Value) (st : St) : Prop where
  hb : w.heap[b]? = some (.cells cs 62 (0, 0))
  sz : cs.size = 195
  c0 : cs[0]? = some (.bool true)
  c1 : cs[1]? = some (.int .i64 st.now)
  c2 : cs[2]? = some (.map (some bm))
  sl : ∀ l k, l < 6 → k < 32 → ∃ v, cs[3 + l * 32 + k]? = some v ∧ k38.R 38 w base (fun g => col g = l * 32 + k) v ((st.slot l k).map ofT)
  bb : base ≤ b
  cb : col b = 200
  cm : col bm = 201
  mp : w.ownsMap Try.prog 9 (plainElem (H := Unit) Try.prog 3) bm n D
  du : dueIs D st.due st.cnt
  bmb : base ≤ bm
theorem WAt.cell {w : World} {base : Nat} {col : Nat → Nat} {b bm n : Nat} {D : DataW Unit} {cs : Array Value} {st : St} (h : WAt w base col b bm n D cs st) {j : Nat} {v : Value} (hv : cs[j]? = some v) : w.cell? ⟨b, j, none⟩ = some v :=
  (blk_cell h.hb j).trans hv
theorem WAt.frozen {w : World} {base : Nat} {col : Nat → Nat} {b bm n : Nat} {D : DataW Unit} {cs : Array Value} {st : St} (h : WAt w base col b bm n D cs st) (j : Nat) : w.frozen? ⟨b, j, none⟩ = false := blk_frozen h.hb j
end Go.Proofs.Ytcknocglaimcpaa.WA

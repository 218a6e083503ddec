/- Ids that are handed over, opened: what a call of this seat may read at the row's first world; and the wrap that keeps the world's shape. No conditions beyond those typed. -/
import Derived.Test.YtnlljacklhgfgaaDoorPKx0
import Derived.Test.YtnlljacklhgfgaaDoorRows
import Derived.Deep.Strs
import Derived.Deep.SlicePairs
import Derived.Lib.SmallJoins
import Derived.Lib.LaidTab
import Derived.Stop.LaidErr
import Derived.MakeChecks
import Derived.Handed
import Derived.Shelf.Vars
import Derived.Carry
namespace Go.Proofs.YtnlljacklhgfgaaDoor.IR
open Go.RowKit Go.Proofs.YtnlljacklhgfgaaDoorW.PrintWords Go.Proofs.YtnlljacklhgfgaaDoorW.PrintMore Go.Proofs.YtnlljacklhgfgaaDoor.PI Go.ChangeShapes Go.WideShapes
set_option linter.unusedVariables false
theorem cells55 : Tryd.prog.cellsOf 55 = 2 := by kernel_rfl
theorem cells24 : Tryd.prog.cellsOf 24 = 3 := by kernel_rfl
theorem cells3 : Tryd.prog.cellsOf 3 = 1 := by kernel_rfl
theorem cells22 : Tryd.prog.cellsOf 22 = 1 := by kernel_rfl
theorem laidOut : laidOutB Tryd.prog = true := by kernel_rfl
/-- A row, out of its elements. -/
theorem row_of {α : Type} [Inhabited α] {d : Kd α} {W : World} {a : Addr} {n : Nat} (hl : n ≤ maxLen) (each : ∀ i, i < n → ∃ (t : α) (cs : List Value), cs.length = d.sz ∧ d.K W t cs ∧ ∀ j u, cs[j]? = some u → W.cell? (a.add (i * d.sz + j)) = some u) :
    ∃ l : List α, l.length = n ∧ Kd.C d W (some a) n l := by
  obtain ⟨f, hf⟩ := Go.Deep.choose_lt each
  refine ⟨(List.range n).map f, by simp, by simp, hl, fun _ => ⟨a, rfl, fun j p hp => ?_⟩⟩
  rw [List.getElem?_map] at hp
  obtain ⟨i, hi, rfl⟩ := Option.map_eq_some_iff.1 hp
  have hjn : j < n := by
    rcases Nat.lt_or_ge j n with hj | hj
    · exact hj
    · rw [List.getElem?_eq_none (by rw [List.length_range]; exact hj)] at hi; cases hi
  rw [List.getElem?_range hjn] at hi
  obtain rfl := Option.some.inj hi
  exact hf j hjn
instance : Inhabited S55 := ⟨z55⟩
instance : Inhabited S24 := ⟨z24⟩
theorem hops_open {H : Type} {enc : TypeId × Value → H} {W : World} {base : Nat} {spare : Nat → Bool} {held : Bool} {fuel : Nat} {v : Value} {x : DataW H × List MemPlace} (h : DataW.trod enc Tryd.prog W base spare held fuel 22 [v] = some x) :
    ∃ (A : Option Addr) (c : Nat) (l : List S55), v = .slice A l.length c ∧ l.length ≤ c ∧ Kd.C k55 W A l.length l := by
  rcases Go.Deep.open_slice_pairs Tryd.underlying22 Tryd.underlying55 cells55 rfl rfl (by kernel_rfl) (by kernel_rfl) h with ⟨h1, _⟩ | ⟨a, len, cap, m, n', V0, V1, D0, D1, P0, P1, h1, hb, hl, hm, hmm, _, hx⟩
  · simp only [List.cons.injEq, and_true] at h1
    subst h1
    exact ⟨none, 0, [], rfl, Nat.le_refl _, rfl, Nat.zero_le _, fun h => absurd h (by decide)⟩
  · simp only [List.cons.injEq, and_true] at h1
    subst h1
    have hlm : len ≤ m := by rw [hmm]; split <;> omega
    obtain ⟨l, hl2, hC⟩ := row_of (d := k55) (W := W) (a := a) (n := len) (Nat.le_trans (Nat.le_trans hl hm) (by decide)) (fun i hi => by
      obtain ⟨e0, e1, t0, t1⟩ := hx i (by omega)
      obtain ⟨n0, g0, _, _⟩ := DataW.trod_int Tryd.underlying3 t0
      obtain ⟨n1, g1, _, _⟩ := DataW.trod_int Tryd.underlying3 t1
      have g0' : V0 i = .int .i64 n0 := by simpa using g0
      have g1' : V1 i = .int .i64 n1 := by simpa using g1
      rw [g0'] at e0
      rw [g1'] at e1
      refine ⟨⟨n0, n1⟩, _, rfl, k55_mk W ⟨n0, n1⟩, fun j u hu => ?_⟩
      show W.cell? (a.add (i * 2 + j)) = some u
      match j, hu with
      | 0, hu => obtain rfl := Option.some.inj hu; exact e0
      | 1, hu => obtain rfl := Option.some.inj hu; exact e1
      | j + 2, hu => simp at hu)
    subst hl2
    exact ⟨some a, cap, l, rfl, hl, hC⟩
set_option maxRecDepth 100000 in
theorem id_open {H : Type} {enc : TypeId × Value → H} {W : World} {base : Nat} {spare : Nat → Bool} {held : Bool} {v : Value} {d : DataW H} {p : List MemPlace} {r : Reach} {b0 : Nat}
    (hv : Value.okWide Tryd.prog W r b0 24 v) (h : DataW.Trod enc Tryd.prog W base spare held 24 v d p) :
    ∃ (a b : Int) (A : Option Addr) (c : Nat) (l : List S55), v = .agg #[.int .i64 a, .int .i64 b, .slice A l.length c] ∧ l.length ≤ c ∧ Kd.C k55 W A l.length l := by
  obtain ⟨c0, c1, c2, y0, y1, y2, m, rfl, rfl, rfl, hy0, hy1, hy2⟩ := Go.Joins.open_agg3 Tryd.underlying24 (by kernel_rfl) cells24 hv h
  obtain ⟨n0, g0, _, _⟩ := DataW.trod_int Tryd.underlying3 hy0
  obtain ⟨n1, g1, _, _⟩ := DataW.trod_int Tryd.underlying3 hy1
  obtain rfl : c0 = .int .i64 n0 := by simpa using g0
  obtain rfl : c1 = .int .i64 n1 := by simpa using g1
  obtain ⟨A, c, l, rfl, h1, h2⟩ := hops_open hy2
  exact ⟨n0, n1, A, c, l, rfl, h1, h2⟩
set_option maxRecDepth 100000 in
theorem ids_open {H : Type} {enc : TypeId × Value → H} {W : World} {base : Nat} {spare : Nat → Bool} {held : Bool} {fuel : Nat} {v : Value} {x : DataW H × List MemPlace} (h : DataW.trod enc Tryd.prog W base spare held fuel 36 [v] = some x) :
    ∃ (A : Option Addr) (c : Nat) (l : List S24), v = .slice A l.length c ∧ l.length ≤ c ∧ Kd.C k24 W A l.length l := by
  rcases Go.Deep.open_slice Tryd.underlying36 h with ⟨h1, _⟩ | ⟨a, len, cap, m, n', D, Pl, h1, hb, hl, hm, hmm, _, hx⟩
  · simp only [List.cons.injEq, and_true] at h1
    subst h1
    exact ⟨none, 0, [], rfl, Nat.le_refl _, rfl, Nat.zero_le _, fun h => absurd h (by decide)⟩
  · simp only [List.cons.injEq, and_true] at h1
    subst h1
    have hlm : len ≤ m := by rw [hmm]; split <;> omega
    rw [cells24] at hx
    obtain ⟨l, hl2, hC⟩ := row_of (d := k24) (W := W) (a := a) (n := len) (Nat.le_trans (Nat.le_trans hl hm) (by decide)) (fun i hi => by
      obtain ⟨cs, h2, h3⟩ := hx i (by omega)
      obtain ⟨_, hlen, hcell⟩ := World.cells?_some h2
      obtain ⟨y0, y1, y2, n2, _, _, e0, e1, e2⟩ := Go.Deep.trod_struct3 Tryd.underlying24 h3
      match cs, hlen with
      | [c0, c1, c2], _ =>
        obtain ⟨n0, g0, _, _⟩ := DataW.trod_int Tryd.underlying3 e0
        obtain ⟨n1, g1, _, _⟩ := DataW.trod_int Tryd.underlying3 e1
        obtain rfl : c0 = .int .i64 n0 := by simpa [cells3] using g0
        obtain rfl : c1 = .int .i64 n1 := by simpa [cells3] using g1
        have e2' : DataW.trod enc Tryd.prog W base spare held n2 22 [c2] = some y2 := by simpa [cells22] using e2
        obtain ⟨A2, k2, l2, rfl, q1, q2⟩ := hops_open e2'
        refine ⟨⟨n0, n1, l2⟩, _, rfl, k24_mk W ⟨n0, n1, l2⟩ q1 q2, fun j u hu => ?_⟩
        have hj : j < 3 := by
          rcases Nat.lt_or_ge j 3 with hj | hj
          · exact hj
          · rw [List.getElem?_eq_none (by exact hj)] at hu; cases hu
        have := hcell j hj
        rw [hu] at this
        rw [← this]
        show W.cell? (a.add (i * 3 + j)) = _
        rw [Go.Deep.add_add])
    subst hl2
    exact ⟨some a, cap, l, rfl, hl, hC⟩
theorem heap55 : Kd.Heap k55 := Kd.heap_iso _ (Kd.heap_pair (Kd.heap_int _) (Kd.heap_int _))
/-- Hops that came in, as they may be shared. -/
theorem shared {W : World} {A : Option Addr} {c : Nat} {l : List S55} (h1 : l.length ≤ c) (h2 : Kd.C k55 W A l.length l) : Kd.V k55 55 W W.heap.size (fun k_ => k_ < W.heap.size) (.slice A l.length c) l := Kd.V_mk h1 (Kd.C_F heap55 h2)
theorem gT : Tryd.prog.globalNamed "internal/strconv.uint64pow10" = some 0 := by kernel_rfl
theorem gTt : (Tryd.prog.globals[0]?).map (·.type) = some 105 := by kernel_rfl
theorem gES : Tryd.prog.globalNamed "strconv.ErrSyntax" = some 2 := by kernel_rfl
theorem gESt : (Tryd.prog.globals[2]?).map (·.type) = some 78 := by kernel_rfl
theorem gER : Tryd.prog.globalNamed "strconv.ErrRange" = some 3 := by kernel_rfl
theorem gERt : (Tryd.prog.globals[3]?).map (·.type) = some 78 := by kernel_rfl
theorem cellsE : Tryd.prog.cellsOf 128 = 1 := by kernel_rfl
theorem cellsS : Tryd.prog.cellsOf 9 = 1 := by kernel_rfl
theorem star : "*" ++ "errors.errorString" = "*errors.errorString" := by decide
theorem rowP (u : TypeId) (h : Tryd.prog.typeName? 3 u = some "*errors.errorString") : u = 126 :=
  typeName_ptr_named (nm := "errors.errorString") (by rw [star]; kernel_rfl) (by kernel_rfl) (by decide) u (by rw [star]; exact h)
theorem maxlen {W : World} (hs : W.ShapedOpen Tryd.prog) : ∃ m, W.cell? ⟨1, 0, none⟩ = some (.int .i64 m) :=
  cell_of_shapedOpen_int (P := Tryd.prog) (g := 1) (t := 3) (zero := #[.int .i64 0]) hs (of_decide_eq_true (by kernel_rfl)) (by kernel_rfl) rfl (by kernel_rfl) (by kernel_rfl) Tryd.underlying3
/-- What start-up code has laid. -/
theorem wh {W : World} (hs : W.ShapedOpen Tryd.prog) (hL0 : laidMetH Tryd.prog Rows.identChecksRow.laid W) : WH W := by
  rw [MakeChecks.laidMetH_plain _ _ _ (by kernel_rfl)] at hL0
  have hL : laidMet Tryd.prog [("math/bits.deBruijn32tab", Rows.laid_math_bits_deBruijn32tab), ("math/bits.deBruijn64tab", Rows.laid_math_bits_deBruijn64tab), ("internal/strconv.uint64pow10", Rows.laid_internal_strconv_uint64pow10), ("unicode/utf8.acceptRanges", Rows.laid_unicode_utf8_acceptRanges), ("strconv.ErrRange", Rows.laid_strconv_ErrRange), ("strconv.ErrSyntax", Rows.laid_strconv_ErrSyntax), ("unicode/utf8.first", Rows.laid_unicode_utf8_first)] W := hL0
  have h2 := hL.tail.tail
  have h4 := h2.tail.tail
  obtain ⟨a0, s0, hv0, -, -, -⟩ := laid_sentinel h4 gER gERt Tryd.underlying78 rowP Tryd.underlying126 Tryd.underlying128 rfl rfl Tryd.underlying9 cellsE cellsS
  obtain ⟨a1, s1, hv1, -, -, -⟩ := laid_sentinel h4.tail gES gESt Tryd.underlying78 rowP Tryd.underlying126 Tryd.underlying128 rfl rfl Tryd.underlying9 cellsE cellsS
  exact ⟨Lib.tabIs_of_head gT gTt Tryd.underlying105 Tryd.underlying87 (by kernel_rfl) (by kernel_rfl) h2, maxlen hs, ⟨_, _, hv1⟩, ⟨_, _, hv0⟩⟩
/-- The plain wrap, with what start-up code has laid and the world's shape. -/
theorem wrap {H : Type} {enc : TypeId × Value → H} {a : Assume} {C : Checked} {os : Os} {f : FuncId} {fn : Func} {s : ChangeSpec} {conds : List PathCond} {apart fresh handsOn again : Bool} {X : World → Array Value → Prop}
    (hX : ∀ (w w' : World) (args : Array Value), w.heap = w'.heap → X w args → X w' args)
    (own : ownKnob C.prog.godebug = none) (started : os.Started) (noInit : C.prog.inits.idxOf? f = none) (hfn : C.prog.funcs[f]? = some fn)
    (witness : ∃ (w : World) (tape : Tape) (i : Input), w.os = os ∧ (w.forCall tape i).Shaped C.prog ∧ i.vars = [] ∧ Input.okWide C.prog (w.forCall tape i) .any w.heap.size f i ∧
      ((s.pre enc C.prog fn conds apart (w.forCall tape i).memory i.args ∧ X (w.forCall tape i).memory i.args) ∧ sizedMet enc C.prog fn (OpenSpec.ofChange s) apart (w.forCall tape i).memory i.args) ∧ a.holds C.prog (lone (Frame.enter C.prog f i.args .normal) [] (w.forCall tape i)))
    (contract : ∀ (W : World) (base : Nat) (args : Array Value) (ds gs : List (DataW H)) (before : List MemPlace),
      (∀ (j : Nat) t v, fn.params[j]? = some t → args[j]? = some v → Value.okWide C.prog W .any base t v) →
      DataW.Whole enc C.prog fn.params.toList s.vars apart W args.toList ds gs before →
      (DataW.weightsEach C.prog (fn.params.toList ++ s.plain.varTypes C.prog) (ds ++ gs)).all (· ≤ reachBytes) = true → X W args → W.ShapedOpen C.prog →
      Calls C.prog f args W fun e W' => ∃ v, e = .returned v ∧ s.post enc C.prog fn apart fresh handsOn again W args v W') :
    ReturnsInHanded a C os f .any (fun w args => (s.pre enc C.prog fn conds apart w args ∧ X w args) ∧ sizedMet enc C.prog fn (OpenSpec.ofChange s) apart w args) (s.post enc C.prog fn apart fresh handsOn again) := by
  refine returnsInHanded_of_calls own started noInit witness ?_
  intro w tape i _ hsh _ hok hpre _
  obtain ⟨_, _, _, fn', hfn', _, _, _, _, hval⟩ := hok
  have e : fn' = fn := Option.some.inj (hfn'.symm.trans hfn)
  subst e
  obtain ⟨⟨⟨ds, gs, before, hw, _⟩, hx⟩, hz⟩ := hpre
  have hw' := DataW.Whole.of_heap (w' := w.forCall tape i) (by rfl) hw
  refine (contract (w.forCall tape i) w.heap.size i.args ds gs before hval hw' (hz.weights hw) (hX _ _ _ (by rfl) hx) hsh).mono fun e W' ⟨v, he, hp⟩ => ?_
  subst he
  exact ChangeSpec.post_blind hp
end Go.Proofs.YtnlljacklhgfgaaDoor.IR

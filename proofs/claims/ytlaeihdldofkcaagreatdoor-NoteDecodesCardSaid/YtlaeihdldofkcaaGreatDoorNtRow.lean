/- Notes and frames that are handed over, opened: what a call of this seat may read at the row's first world; and the wrap that keeps the world's shape. No conditions beyond those typed. -/
import Derived.Test.YtlaeihdldofkcaaGreatDoorPMx0
import Derived.Test.YtlaeihdldofkcaaGreatDoorRows
import Derived.Deep.Strs
import Derived.Deep.SlicePairs
import Derived.Lib.SmallJoins
import Derived.Lib.LaidTab
import Derived.Stop.LaidErr
import Derived.MakeChecks
import Derived.Handed
import Derived.Shelf.Vars
import Derived.Carry
namespace Go.Proofs.YtlaeihdldofkcaaGreatDoor.IR
open Go.RowKit Go.Proofs.YtlaeihdldofkcaaGreatDoorW.PrintWords Go.Proofs.YtlaeihdldofkcaaGreatDoorW.PrintMore Go.Proofs.YtlaeihdldofkcaaGreatDoor.PN Go.ChangeShapes Go.WideShapes
set_option linter.unusedVariables false
theorem cells55:Tryz.prog.cellsOf 46=2:=by kernel_rfl
theorem cells24:Tryz.prog.cellsOf 24=3:=by kernel_rfl
theorem cellsS:Tryz.prog.cellsOf 9=1:=by kernel_rfl
theorem cells3:Tryz.prog.cellsOf 3=1:=by kernel_rfl
theorem cells22:Tryz.prog.cellsOf 22=1:=by kernel_rfl
theorem laidOut:laidOutB Tryz.prog=true:=by kernel_rfl
/-- A row, out of its elements. -/
theorem row_of {α:Type} [Inhabited α] {d:Kd α} {W:World} {a:Addr} {n:Nat} (hl:n≤maxLen) (each:∀ i,i< n→∃ (t:α) (cs:List Value),cs.length=d.sz∧d.K W t cs∧∀ j u,cs[j]?=some u→W.cell? (a.add (i * d.sz+j))=some u) :
    ∃ l:List α,l.length=n∧Kd.C d W (some a) n l:=by
  obtain⟨f,hf⟩:=Go.Deep.choose_lt each
  refine⟨(List.range n).map f,by simp,by simp,hl,fun _=> ⟨a,rfl,fun j p hp=> ?_⟩⟩
  rw[List.getElem?_map]at hp
  obtain⟨i,hi,rfl⟩:=Option.map_eq_some_iff.1 hp
  have hjn:j< n:=by
    rcases Nat.lt_or_ge j n with hj|hj
    · exact hj
    · rw[List.getElem?_eq_none (by rw[List.length_range];exact hj)]at hi;cases hi
  rw[List.getElem?_range hjn]at hi
  obtain rfl:=Option.some.inj hi
  exact hf j hjn
instance:Inhabited S46:=⟨z46⟩
instance:Inhabited S24:=⟨z24⟩
theorem hops_open {H:Type} {enc:TypeId×Value→H} {W:World} {base:Nat} {spare:Nat→Bool} {held:Bool} {fuel:Nat} {v:Value} {x:DataW H×List MemPlace} (h:DataW.trod enc Tryz.prog W base spare held fuel 22 [v]=some x) :
    ∃ (A:Option Addr) (c:Nat) (l:List S46),v=.slice A l.length c∧l.length≤c∧Kd.C k46 W A l.length l:=by
  rcases Go.Deep.open_slice_pairs Tryz.underlying22 Tryz.underlying46 cells55 rfl rfl (by kernel_rfl) (by kernel_rfl) h with⟨h1,_⟩|⟨a,len,cap,m,n',V0,V1,D0,D1,P0,P1,h1,hb,hl,hm,hmm,_,hx⟩
  · simp only[List.cons.injEq,and_true]at h1
    subst h1
    exact⟨none,0,[],rfl,Nat.le_refl _,rfl,Nat.zero_le _,fun h=> absurd h (by decide)⟩
  · simp only[List.cons.injEq,and_true]at h1
    subst h1
    have hlm:len≤m:=by rw[hmm];split<;> omega
    obtain⟨l,hl2,hC⟩:=row_of (d:=k46) (W:=W) (a:=a) (n:=len) (Nat.le_trans (Nat.le_trans hl hm) (by decide)) (fun i hi=> by
      obtain⟨e0,e1,t0,t1⟩:=hx i (by omega)
      obtain⟨n0,g0,_,_⟩:=DataW.trod_int Tryz.underlying3 t0
      obtain⟨n1,g1,_,_⟩:=DataW.trod_int Tryz.underlying3 t1
      have g0':V0 i=.int .i64 n0:=by simpa using g0
      have g1':V1 i=.int .i64 n1:=by simpa using g1
      rw[g0']at e0
      rw[g1']at e1
      refine⟨⟨n0,n1⟩,_,rfl,k46_mk W ⟨n0,n1⟩,fun j u hu=> ?_⟩
      show W.cell? (a.add (i * 2+j))=some u
      match j,hu with
      |0,hu=> obtain rfl:=Option.some.inj hu;exact e0
      |1,hu=> obtain rfl:=Option.some.inj hu;exact e1
      |j+2,hu=> simp at hu)
    subst hl2
    exact⟨some a,cap,l,rfl,hl,hC⟩
/-- An id's cells. -/
theorem id_cells {H:Type} {enc:TypeId×Value→H} {W:World} {base:Nat} {spare:Nat→Bool} {held:Bool} {fuel:Nat} {c0 c1 c2:Value} {x:DataW H×List MemPlace} (h:DataW.trod enc Tryz.prog W base spare held fuel 24 [c0,c1,c2]=some x) :
    ∃ (a b:Int) (A:Option Addr) (c:Nat) (l:List S46),c0=.int .i64 a∧c1=.int .i64 b∧c2=.slice A l.length c∧l.length≤c∧Kd.C k46 W A l.length l:=by
  obtain⟨y0,y1,y2,n2,_,_,e0,e1,e2⟩:=Go.Deep.trod_struct3 Tryz.underlying24 h
  obtain⟨n0,g0,_,_⟩:=DataW.trod_int Tryz.underlying3 e0
  obtain⟨n1,g1,_,_⟩:=DataW.trod_int Tryz.underlying3 e1
  obtain rfl:c0=.int .i64 n0:=by simpa[cells3]using g0
  obtain rfl:c1=.int .i64 n1:=by simpa[cells3]using g1
  have e2':DataW.trod enc Tryz.prog W base spare held n2 22 [c2]=some y2:=by simpa[cells22]using e2
  obtain⟨A2,k2,l2,rfl,q1,q2⟩:=hops_open e2'
  exact⟨n0,n1,A2,k2,l2,rfl,rfl,rfl,q1,q2⟩
/-- A note's cells. -/
theorem note_cells {H:Type} {enc:TypeId×Value→H} {W:World} {base:Nat} {spare:Nat→Bool} {held:Bool} {fuel:Nat} {c0 c1 c2 c3 c4 c5:Value} {x:DataW H×List MemPlace} (h:DataW.trod enc Tryz.prog W base spare held fuel 26 [c0,c1,c2,c3,c4,c5]=some x) :
    ∃ (a0 a1 a2:Int) (A:Option Addr) (c:Nat) (l:List S46) (s:ByteArray) (a5:Int),c0=.int .i64 a0∧c1=.int .i64 a1∧c2=.int .i64 a2∧c3=.slice A l.length c∧c4=.string s∧c5=.int .i64 a5∧l.length≤c∧Kd.C k46 W A l.length l:=by
  obtain⟨y0,y1,y2,y3,n,_,_,e0,e1,e2,e3⟩:=Go.Joins.trod_struct4 Tryz.underlying26 h
  obtain⟨n0,g0,_,_⟩:=DataW.trod_int Tryz.underlying3 e0
  obtain rfl:c0=.int .i64 n0:=by simpa[cells3]using g0
  have e1':DataW.trod enc Tryz.prog W base spare held n 24 [c1,c2,c3]=some y1:=by simpa[cells24]using e1
  obtain⟨a,b,A,c,l,rfl,rfl,rfl,q1,q2⟩:=id_cells e1'
  obtain⟨s,g2,_,_⟩:=DataW.trod_string Tryz.underlying9 e2
  obtain rfl:c4=.string s:=by simpa[cellsS]using g2
  obtain⟨n3,g3,_,_⟩:=DataW.trod_int Tryz.underlying3 e3
  obtain rfl:c5=.int .i64 n3:=by simpa[cells3]using g3
  exact⟨n0,a,b,A,c,l,s,n3,rfl,rfl,rfl,rfl,rfl,rfl,q1,q2⟩
theorem array6 {α:Type} {cs:Array α} (h:cs.size=6):∃ c0 c1 c2 c3 c4 c5,cs=#[c0,c1,c2,c3,c4,c5]:=by
  obtain⟨l⟩:=cs
  match l,h with
  |[c0,c1,c2,c3,c4,c5],_=> exact⟨c0,c1,c2,c3,c4,c5,rfl⟩
theorem array12 {α:Type} {cs:Array α} (h:cs.size=12):∃ c0 c1 c2 c3 c4 c5 c6 c7 c8 c9 c10 c11,cs=#[c0,c1,c2,c3,c4,c5,c6,c7,c8,c9,c10,c11]:=by
  obtain⟨l⟩:=cs
  match l,h with
  |[c0,c1,c2,c3,c4,c5,c6,c7,c8,c9,c10,c11],_=> exact⟨c0,c1,c2,c3,c4,c5,c6,c7,c8,c9,c10,c11,rfl⟩
theorem cellsN:Tryz.prog.cellsOf 26=6:=by kernel_rfl
theorem cellsF:Tryz.prog.cellsOf 28=12:=by kernel_rfl
set_option maxRecDepth 100000 in
theorem note_open {H:Type} {enc:TypeId×Value→H} {W:World} {base:Nat} {spare:Nat→Bool} {held:Bool} {v:Value} {d:DataW H} {p:List MemPlace} {r:Reach} {b0:Nat}
    (hv:Value.okWide Tryz.prog W r b0 26 v) (h:DataW.Trod enc Tryz.prog W base spare held 26 v d p) :
    ∃ (a0 a1 a2:Int) (A:Option Addr) (c:Nat) (l:List S46) (s:ByteArray) (a5:Int),v=.agg #[.int .i64 a0,.int .i64 a1,.int .i64 a2,.slice A l.length c,.string s,.int .i64 a5]∧l.length≤c∧Kd.C k46 W A l.length l:=by
  obtain⟨cs,rfl,hsz⟩:=okWide_struct Tryz.underlying26 hv
  obtain⟨c0,c1,c2,c3,c4,c5,rfl⟩:=array6 (hsz.trans cellsN)
  obtain⟨fuel,hf⟩:=h
  obtain⟨a0,a1,a2,A,c,l,s,a5,rfl,rfl,rfl,rfl,rfl,rfl,q1,q2⟩:=note_cells (show DataW.trod enc Tryz.prog W base spare held fuel 26 [c0,c1,c2,c3,c4,c5]=some (d,p)from hf)
  exact⟨a0,a1,a2,A,c,l,s,a5,rfl,q1,q2⟩
set_option maxRecDepth 100000 in
theorem frame_open {H:Type} {enc:TypeId×Value→H} {W:World} {base:Nat} {spare:Nat→Bool} {held:Bool} {v:Value} {d:DataW H} {p:List MemPlace} {r:Reach} {b0:Nat}
    (hv:Value.okWide Tryz.prog W r b0 28 v) (h:DataW.Trod enc Tryz.prog W base spare held 28 v d p) :
    ∃ (f t e q ae ak a0 a1 a2:Int) (A:Option Addr) (c:Nat) (l:List S46) (s:ByteArray) (a5:Int),v=.agg #[.int .i64 f,.int .i64 t,.int .i64 e,.int .i64 q,.int .i64 ae,.int .i64 ak,.int .i64 a0,.int .i64 a1,.int .i64 a2,.slice A l.length c,.string s,.int .i64 a5]∧l.length≤c∧Kd.C k46 W A l.length l:=by
  obtain⟨cs,rfl,hsz⟩:=okWide_struct Tryz.underlying28 hv
  obtain⟨c0,c1,c2,c3,c4,c5,c6,c7,c8,c9,c10,c11,rfl⟩:=array12 (hsz.trans cellsF)
  obtain⟨fuel,hf⟩:=h
  replace hf:DataW.trod enc Tryz.prog W base spare held fuel 28 [c0,c1,c2,c3,c4,c5,c6,c7,c8,c9,c10,c11]=some (d,p):=hf
  obtain⟨xs,n,_,_,hl,hlen,hx⟩:=DataW.trod_struct Tryz.underlying28 hf
  match xs,hlen with
  |[y0,y1,y2,y3,y4,y5,y6],_=>
    obtain⟨n0,g0,_,_⟩:=DataW.trod_int Tryz.underlying3 (by simpa using hx 0 _ rfl)
    obtain⟨n1,g1,_,_⟩:=DataW.trod_int Tryz.underlying3 (by simpa using hx 1 _ rfl)
    obtain⟨n2,g2,_,_⟩:=DataW.trod_int Tryz.underlying3 (by simpa using hx 2 _ rfl)
    obtain⟨n3,g3,_,_⟩:=DataW.trod_int Tryz.underlying3 (by simpa using hx 3 _ rfl)
    obtain⟨n4,g4,_,_⟩:=DataW.trod_int Tryz.underlying3 (by simpa using hx 4 _ rfl)
    obtain⟨n5,g5,_,_⟩:=DataW.trod_int Tryz.underlying3 (by simpa using hx 5 _ rfl)
    obtain rfl:c0=.int .i64 n0:=by simpa[cells3]using g0
    obtain rfl:c1=.int .i64 n1:=by simpa[cells3]using g1
    obtain rfl:c2=.int .i64 n2:=by simpa[cells3]using g2
    obtain rfl:c3=.int .i64 n3:=by simpa[cells3]using g3
    obtain rfl:c4=.int .i64 n4:=by simpa[cells3]using g4
    obtain rfl:c5=.int .i64 n5:=by simpa[cells3]using g5
    have e6:DataW.trod enc Tryz.prog W base spare held n 26 [c6,c7,c8,c9,c10,c11]=some y6:=by simpa[cellsN]using hx 6 _ rfl
    obtain⟨a0,a1,a2,A,c,l,s,a5,rfl,rfl,rfl,rfl,rfl,rfl,q1,q2⟩:=note_cells e6
    exact⟨n0,n1,n2,n3,n4,n5,a0,a1,a2,A,c,l,s,a5,rfl,q1,q2⟩
theorem gT : Tryz.prog.globalNamed "internal/strconv.uint64pow10" = some 0 := by kernel_rfl
theorem gTt:(Tryz.prog.globals[0]?).map (·.type)=some 135:=by kernel_rfl
theorem gES : Tryz.prog.globalNamed "strconv.ErrSyntax" = some 2 := by kernel_rfl
theorem gESt:(Tryz.prog.globals[2]?).map (·.type)=some 121:=by kernel_rfl
theorem gER : Tryz.prog.globalNamed "strconv.ErrRange" = some 3 := by kernel_rfl
theorem gERt:(Tryz.prog.globals[3]?).map (·.type)=some 121:=by kernel_rfl
theorem cellsE:Tryz.prog.cellsOf 168=1:=by kernel_rfl
theorem star : "*" ++ "errors.errorString" = "*errors.errorString" := by decide
theorem rowP (u : TypeId) (h : Tryz.prog.typeName? 3 u = some "*errors.errorString") : u = 166 :=
  typeName_ptr_named (nm := "errors.errorString") (by rw [star]; kernel_rfl) (by kernel_rfl) (by decide) u (by rw [star]; exact h)
theorem maxlen {W:World} (hs:W.ShapedOpen Tryz.prog):∃ m,W.cell? ⟨1,0,none⟩=some (.int .i64 m):=
  cell_of_shapedOpen_int (P:=Tryz.prog) (g:=1) (t:=3) (zero:=#[.int .i64 0]) hs (of_decide_eq_true (by kernel_rfl)) (by kernel_rfl) rfl (by kernel_rfl) (by kernel_rfl) Tryz.underlying3
/-- What start-up code has laid. -/
theorem wh {W:World} (hs:W.ShapedOpen Tryz.prog) (hL0:laidMetH Tryz.prog Rows.noteEncodesRow.laid W):WH W:=by
  rw[MakeChecks.laidMetH_plain _ _ _ (by kernel_rfl)]at hL0
  have hL : laidMet Tryz.prog [("math/bits.deBruijn32tab", Rows.laid_math_bits_deBruijn32tab), ("math/bits.deBruijn64tab", Rows.laid_math_bits_deBruijn64tab), ("internal/strconv.uint64pow10", Rows.laid_internal_strconv_uint64pow10), ("unicode/utf8.acceptRanges", Rows.laid_unicode_utf8_acceptRanges), ("strconv.ErrRange", Rows.laid_strconv_ErrRange), ("strconv.ErrSyntax", Rows.laid_strconv_ErrSyntax), ("unicode/utf8.first", Rows.laid_unicode_utf8_first)] W := hL0
  have h2:=hL.tail.tail
  have h4:=h2.tail.tail
  obtain⟨a0,s0,hv0,-,-,-⟩:=laid_sentinel h4 gER gERt Tryz.underlying121 rowP Tryz.underlying166 Tryz.underlying168 rfl rfl Tryz.underlying9 cellsE cellsS
  obtain⟨a1,s1,hv1,-,-,-⟩:=laid_sentinel h4.tail gES gESt Tryz.underlying121 rowP Tryz.underlying166 Tryz.underlying168 rfl rfl Tryz.underlying9 cellsE cellsS
  exact⟨Lib.tabIs_of_head gT gTt Tryz.underlying135 Tryz.underlying52 (by kernel_rfl) (by kernel_rfl) h2,maxlen hs,⟨_,_,hv1⟩,⟨_,_,hv0⟩⟩
/-- The plain wrap, with what start-up code has laid and the world's shape. -/
theorem wrap {H:Type} {enc:TypeId×Value→H} {a:Assume} {C:Checked} {os:Os} {f:FuncId} {fn:Func} {s:ChangeSpec} {conds:List PathCond} {apart fresh handsOn again:Bool} {X:World→Array Value→Prop}
    (hX:∀ (w w':World) (args:Array Value),w.heap=w'.heap→X w args→X w' args)
    (own:ownKnob C.prog.godebug=none) (started:os.Started) (noInit:C.prog.inits.idxOf? f=none) (hfn:C.prog.funcs[f]?=some fn)
    (witness:∃ (w:World) (tape:Tape) (i:Input),w.os=os∧(w.forCall tape i).Shaped C.prog∧i.vars=[]∧Input.okWide C.prog (w.forCall tape i) .any w.heap.size f i∧
      ((s.pre enc C.prog fn conds apart (w.forCall tape i).memory i.args∧X (w.forCall tape i).memory i.args)∧sizedMet enc C.prog fn (OpenSpec.ofChange s) apart (w.forCall tape i).memory i.args)∧a.holds C.prog (lone (Frame.enter C.prog f i.args .normal) [] (w.forCall tape i)))
    (contract:∀ (W:World) (base:Nat) (args:Array Value) (ds gs:List (DataW H)) (before:List MemPlace),
      (∀ (j:Nat) t v,fn.params[j]?=some t→args[j]?=some v→Value.okWide C.prog W .any base t v)→
      DataW.Whole enc C.prog fn.params.toList s.vars apart W args.toList ds gs before→
      (DataW.weightsEach C.prog (fn.params.toList++s.plain.varTypes C.prog) (ds++gs)).all (·≤reachBytes)=true→X W args→W.ShapedOpen C.prog→
      Calls C.prog f args W fun e W'=> ∃ v,e=.returned v∧s.post enc C.prog fn apart fresh handsOn again W args v W') :
    ReturnsInHanded a C os f .any (fun w args=> (s.pre enc C.prog fn conds apart w args∧X w args)∧sizedMet enc C.prog fn (OpenSpec.ofChange s) apart w args) (s.post enc C.prog fn apart fresh handsOn again):=by
  refine returnsInHanded_of_calls own started noInit witness ?_
  intro w tape i _ hsh _ hok hpre _
  obtain⟨_,_,_,fn',hfn',_,_,_,_,hval⟩:=hok
  have e:fn'=fn:=Option.some.inj (hfn'.symm.trans hfn)
  subst e
  obtain⟨⟨⟨ds,gs,before,hw,_⟩,hx⟩,hz⟩:=hpre
  have hw':=DataW.Whole.of_heap (w':=w.forCall tape i) (by rfl) hw
  refine(contract (w.forCall tape i) w.heap.size i.args ds gs before hval hw' (hz.weights hw) (hX _ _ _ (by rfl) hx) hsh).mono fun e W' ⟨v,he,hp⟩=> ?_
  subst he
  exact ChangeSpec.post_blind hp
end Go.Proofs.YtlaeihdldofkcaaGreatDoor.IR

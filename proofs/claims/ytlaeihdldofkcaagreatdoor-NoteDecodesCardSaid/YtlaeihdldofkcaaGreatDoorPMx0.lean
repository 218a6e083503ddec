/- The machine side of this seat's laws: plain functions, and proofs that the calls do what they say; written by a program of this session over the translation; no conditions beyond those typed. -/
import Derived.Test.YtlaeihdldofkcaaGreatDoorProg
import Derived.Laws.Externs
import Derived.Lib.Bytealg
import Derived.Below
import Derived.Deep.Draws
import Derived.Deep.AppendLies
import Derived.Maps.AppendAt
import Derived.OwnWalk
import Derived.Laws.BytesArg
import Derived.Laws.MakeOwn
import Derived.Laws.OwnMore
import Derived.Deep.OwnRows
import Derived.Tactics
import Derived.Lib.ConvBytes
import Derived.Laws.Slices
import Derived.WalkKit
import Derived.KernelRfl
import Derived.RowKit3
import Derived.Deep.LoopGhost
import Derived.Deep.QuietTactic
import Derived.BigQuiet
import Derived.WideLaws
import Derived.Deep.DeepCutAuto
import Derived.Deep.CutBlock
import Derived.Deep.RegionHeld3
import Derived.Laws.Rows
import Derived.Lib.AppendStr
import Derived.ArgAppend
import Derived.Laws.IdiomCopy
import Derived.OrdersHeld
import Derived.Laws.BitsLemmas
import Derived.RowKit
import Derived.Test.YtlaeihdldofkcaaGreatDoorLays
import Derived.Deep.RegionLaw
import Derived.StillTailTactics
import Derived.Lib.SliceRun
import Derived.Lib.SmallJoins
import Derived.Lib.AppendIntMem
import Derived.Laws.Bits64
import Derived.Laws.Bits64b
import Derived.Test.YtlaeihdldofkcaaGreatDoorVWords
import Derived.Test.YtlaeihdldofkcaaGreatDoorVLast
import Derived.Test.YtlaeihdldofkcaaGreatDoorVTab
import Derived.Test.YtlaeihdldofkcaaGreatDoorVFour
import Derived.Test.YtlaeihdldofkcaaGreatDoorVApart
import Derived.Test.YtlaeihdldofkcaaGreatDoorVFoot
import Derived.Test.YtlaeihdldofkcaaGreatDoorVKept
import Derived.Test.YtlaeihdldofkcaaGreatDoorVShare
import Derived.Test.YtlaeihdldofkcaaGreatDoorVN
import Derived.Laws.StructEq
import Derived.Test.YtlaeihdldofkcaaGreatDoorVRepsOne
import Derived.Test.YtlaeihdldofkcaaGreatDoorVInv
import Derived.Test.YtlaeihdldofkcaaGreatDoorVGuard
import Derived.Test.YtlaeihdldofkcaaGreatDoorVMore
namespace Go.Proofs.YtlaeihdldofkcaaGreatDoor.PN
open Go.RowKit Go.Proofs.YtlaeihdldofkcaaGreatDoorW.PrintWords Go.Proofs.YtlaeihdldofkcaaGreatDoorW.PrintLast Go.Proofs.YtlaeihdldofkcaaGreatDoorW.PrintMore
attribute [local go_sem] max2_int min2_int max_two min_two max_three min_three max_four min_four   -- for this text's walks alone
set_option linter.unusedVariables false
set_option linter.unusedSimpArgs false



def errW:Option Int→Value
  |none=> .nilIface
  |some c=> .iface 0 (.int .i64 c)
theorem errW_none:errW none=.nilIface:=rfl
theorem errW_some (c:Int):errW (some c)=.iface 0 (.int .i64 c):=rfl

def xt_indexByte (s:ByteArray) (c:Int):Int:=Lib.indexByte s.data.toList c.toNat.toUInt8
theorem xt_ixb (s:ByteArray) (c:Int) (w:World):(callFunc 110 #[.string s,.int .u8 c]).run Tryz.prog w=.ok (.value (.int .i64 (xt_indexByte s c))) w:=by
  rw[run_callFunc_extern Tryz.func110 (by kernel_rfl) (by kernel_rfl) (by kernel_rfl) (e:=Extern.BytealgIndexByte.indexByte) (by kernel_rfl),Lib.run_indexByteString]
  rfl
attribute [go_sem] xt_ixb
theorem Kd_R_plain {α:Type} {d:Kd α} {e:Nat} {w:World} {base:Nat} {ok:Nat→Prop} {A:Option Addr} {n c:Nat} {xs:List α} (h:Kd.R d e w base ok (.slice A n c) xs):∀ ad,A=some ad→ad.spot=none:=by
  obtain⟨inner,ho⟩:=Kd.R_own h
  intro ad he
  rcases ho.2 with⟨h1,_⟩|⟨g,cap,cur,h1,_⟩
  · injection h1 with h2;rw[h2]at he;cases he
  · injection h1 with h2;rw[h2]at he;injection he with h3;rw[← h3]
theorem Kd_R_make0 {α:Type} {P:Program} {ops:Array Oper} {o:Oper} {rest:List Oper} {a:Act} {W:World} {Q:Exit→Act→World→Prop} (d:Kd α) {w0:World} (base e:Nat) (hgd:o.guard=none) {N:Tmp} (hd:o.dst=some N) (t:TypeId) (x y:Operand) (ho:o.op=.makeSlice t x y) (n:Int) (hx:a.eval x=.int .i64 0) (hy:a.eval y=.int .i64 n)
    (ht:P.underlying t=some (.slice e)) (z:Value) (bytes:Nat) (hinfo:(P.info? e).map (fun i=> (i.zero,i.size,i.bytes))=some (some z,d.sz,bytes)) (hz:z.cells.size=d.sz) (hs0:0< d.sz) (hb0:0< bytes)
    (z0:α) {ok okp:Nat→Prop} (hzero:d.M W base okp z0 z.cells.toList) (hok:∀ k,okp k→ok k) (hfresh:ok W.heap.size) (h0:0≤n) (hl:n.toNat * bytes≤281474976710656) (HB:Below base w0 W) (hbase:base≤W.heap.size)
    (h:∀ v1 w1,d.R e w1 base ok v1 (List.replicate 0 z0)→Below base w0 w1→W.grownBy w1 none→(∃ b,v1.ownBlock=some b∧W.heap.size≤b)→wpList P ops Q rest (a.put o.dst v1) w1):wpList P ops Q (o :: rest) a W:=by
  obtain⟨m,rfl⟩:=Int.eq_ofNat_of_zero_le h0
  simp only[Int.toNat_natCast]at hl
  obtain⟨i0,hi,hzz⟩:=Option.map_eq_some_iff.1 hinfo
  simp only[Prod.mk.injEq]at hzz
  obtain⟨hz0,hz1,hz2⟩:=hzz
  have hm:m≤281474976710656:=Nat.le_trans (Nat.le_mul_of_pos_right _ hb0) hl
  have hr:=run_make (P:=P) W t e i0 z ht hi hz0 .i64 .i64 0 (m:Int) (by omega) (by omega)
    (by
      have h3:((i0.bytes * m:Nat):Int)≤281474976710656:=by rw[hz2,Nat.mul_comm];omega
      rwa [Int.natCast_mul]at h3) (by omega)
  simp only[Int.toNat_natCast]at hr
  rw[hz1]at hr
  refine Kd.event_run (v:=.slice (some ⟨W.heap.size,0,none⟩) 0 m) (w1:=W.alloc (.cells (madeCells z.cells (m * d.sz)) e)) hgd (by simp[execOp,ho,hx,hy,hr,Result.andThen,Sem.run_pure]) (h _ _ ⟨fun k hk=> ?_,[],?_,Reps.none _ _⟩ (HB.alloc hbase _) (World.grownBy_alloc W _ none) ⟨W.heap.size,by simp[Value.ownBlock],Nat.le_refl _⟩)
  · have:W.heap.size=k:=by simpa[Value.ownBlock]using hk
    subst this
    exact hfresh
  · refine⟨by simp,.inr ⟨W.heap.size,m,madeCells z.cells (m * d.sz),rfl,hbase,by simpa using heap_alloc_new W _,Nat.zero_le _,by show m≤9223372036854775807;omega,by simp[size_madeCells],by simp⟩⟩
theorem xt_emp (l:List UInt8):l.isEmpty=!(l !=[]):=by cases l<;> rfl

theorem var_below {n:String} {cs:Array Value} {w w':World} (h:w.var? Tryz.prog n=some cs) (hb:Below w.heap.size w w'):w'.var? Tryz.prog n=some cs:=by
  unfold World.var? at h ⊢
  obtain⟨g,hg,h⟩:=Option.bind_eq_some_iff.1 h
  rw[hg]
  show(match w'.heap[g]? with|some (.cells cs _ _)=> some cs|_=> none)=some cs
  cases ho:w.heap[g]? with
  |none=> rw[ho]at h;cases h
  |some o=>
    rw[hb.block g (blk_lt ho),ho]
    rw[ho]at h
    exact h
/-- What the library's functions ask of the world: three variables of the library's own lie as their initialisers lay them; a fourth has some number. -/
structure WH (w:World):Prop where
  tab : Lib.TabIs Tryz.prog w "internal/strconv.uint64pow10" .u64 Lib.pow10Tab
  max:∃ m,w.cell? ⟨Tryz.laysNm_146_ren.g 1,0,none⟩=some (.int .i64 m)
  syn : ∃ tp p, w.var? Tryz.prog "strconv.ErrSyntax" = some #[.iface tp p]
  rng : ∃ tp p, w.var? Tryz.prog "strconv.ErrRange" = some #[.iface tp p]
theorem WH.below {w w':World} (h:WH w) (hb:Below w.heap.size w w'):WH w':=by
  obtain⟨h1,⟨m,h2⟩,⟨a,b,h3⟩,⟨c,d,h4⟩⟩:=h
  exact⟨var_below h1 hb,⟨m,(hb.cell (World.block_lt_of_cell? w _ h2)).trans h2⟩,⟨a,b,var_below h3 hb⟩,⟨c,d,var_below h4 hb⟩⟩

theorem info3:(Tryz.prog.info? 3).map (fun i=> (i.zero,i.size,i.bytes))=some (some (.int .i64 0),1,8):=by kernel_rfl
theorem info5:(Tryz.prog.info? 5).map (fun i=> (i.zero,i.size,i.bytes))=some (some (.int .u8 0),1,1):=by kernel_rfl
theorem info9:(Tryz.prog.info? 9).map (fun i=> (i.zero,i.size,i.bytes))=some (some (.string ⟨#[]⟩),1,16):=by kernel_rfl
theorem info46:(Tryz.prog.info? 46).map (fun i=> (i.zero,i.size,i.bytes))=some (some (.agg #[(.int .i64 0),(.int .i64 0)]),2,16):=by kernel_rfl
-- the values' own types
/-! #### struct type 46 -/
structure S46 where
  f0:Int
  f1:Int
def z46:S46:=⟨(0:Int),(0:Int)⟩
def k46:Kd S46:=Kd.iso (Kd.pair (Kd.int .i64) (Kd.int .i64)) (fun x:S46=> (x.f0,x.f1))
theorem k46_open {w:World} {x:S46} {cs:List Value} (h:k46.K w x cs):cs=[.int .i64 x.f0,.int .i64 x.f1]:=by
  obtain⟨_,_,rfl,rfl,rfl⟩:=h
  exact rfl
theorem k46_openM {w:World} {base:Nat} {ok:Nat→Prop} {x:S46} {cs:List Value} (h:k46.M w base ok x cs):cs=[.int .i64 x.f0,.int .i64 x.f1]:=by
  obtain⟨_,_,rfl,rfl,rfl⟩:=h
  exact rfl
theorem k46_mk (w:World) (x:S46)  : k46.K w x [.int .i64 x.f0,.int .i64 x.f1]:=⟨[.int .i64 x.f0],[.int .i64 x.f1],rfl,rfl,rfl⟩
theorem k46_mkM (w:World) (base:Nat) (ok:Nat→Prop) (x:S46)  : k46.M w base ok x [.int .i64 x.f0,.int .i64 x.f1]:=⟨[.int .i64 x.f0],[.int .i64 x.f1],rfl,rfl,rfl⟩
def rd_T46 (xs:List S46) (i:Int):S46:=xs.getD i.toNat z46
theorem at_T46 {w:World} {A:Option Addr} {n:Nat} {xs:List S46} (h:Kd.C k46 w A n xs) (i:Int) (h0:0≤i) (h1:i< n):∃ ad,A=some ad∧w.cell? (ad.add (i.toNat * 2))=some (.int .i64 (rd_T46 xs i).f0)∧w.cell? ⟨(ad.add (i.toNat * 2)).block,(ad.add (i.toNat * 2)).off+1,none⟩=some (.int .i64 (rd_T46 xs i).f1):=by
  obtain⟨ad,c,e,_,hK,hc0⟩:=Kd.C_get h z46 i h0 h1
  have hc:∀ j u,c[j]?=some u→w.cell? (ad.add (i.toNat * 2+j))=some u:=hc0
  obtain rfl:=k46_open hK
  exact⟨ad,e,hc 0 _ rfl,by rw[← add_field _ _ 1 (by omega)];exact hc 1 _ rfl⟩

def rd_L2 (xs:List (List S46)) (i:Int):(List S46):=xs.getD i.toNat ([]:List S46)
theorem at_L2 {w:World} {A:Option Addr} {n:Nat} {xs:List (List S46)} (h:Kd.C (Kd.slice 46 k46) w A n xs) (i:Int) (h0:0≤i) (h1:i< n):∃ ad A0 c0,A=some ad∧w.cell? (ad.add i.toNat)=some (.slice A0 (rd_L2 xs i).length c0)∧(rd_L2 xs i).length≤c0∧k46.C w A0 (rd_L2 xs i).length (rd_L2 xs i):=by
  obtain⟨ad,c,e,_,hK,hc0⟩:=Kd.C_get h ([]:List S46) i h0 h1
  have hc:∀ j u,c[j]?=some u→w.cell? (ad.add (i.toNat * 1+j))=some u:=hc0
  obtain⟨A0,c0,rfl,l0,g0⟩:=hK
  exact⟨ad,A0,c0,e,by have hq:=hc 0 _ rfl;rwa [Nat.mul_one,Nat.add_zero]at hq,l0,g0⟩

/-! #### struct type 24 -/
structure S24 where
  f0:Int
  f1:Int
  f2:(List S46)
def z24:S24:=⟨(0:Int),(0:Int),([]:List S46)⟩
def k24:Kd S24:=Kd.iso (Kd.pair (Kd.int .i64) (Kd.pair (Kd.int .i64) (Kd.slice 46 k46))) (fun x:S24=> (x.f0,x.f1,x.f2))
theorem k24_open {w:World} {x:S24} {cs:List Value} (h:k24.K w x cs):∃ A2 c2,cs=[.int .i64 x.f0,.int .i64 x.f1,.slice A2 x.f2.length c2]∧x.f2.length≤c2∧k46.C w A2 x.f2.length x.f2:=by
  obtain⟨_,_,rfl,rfl,⟨_,_,rfl,rfl,⟨A2,c2,rfl,l2,g2⟩⟩⟩:=h
  exact⟨A2,c2,rfl,l2,g2⟩
theorem k24_openM {w:World} {base:Nat} {ok:Nat→Prop} {x:S24} {cs:List Value} (h:k24.M w base ok x cs):∃ v2,cs=[.int .i64 x.f0,.int .i64 x.f1,v2]∧k46.R 46 w base ok v2 x.f2:=by
  obtain⟨_,_,rfl,rfl,⟨_,_,rfl,rfl,⟨v2,rfl,g2⟩⟩⟩:=h
  exact⟨v2,rfl,g2⟩
theorem k24_mk (w:World) (x:S24) {A2:Option Addr} {c2:Nat} (l2:x.f2.length≤c2) (g2:k46.C w A2 x.f2.length x.f2):k24.K w x [.int .i64 x.f0,.int .i64 x.f1,.slice A2 x.f2.length c2]:=⟨[.int .i64 x.f0],[.int .i64 x.f1,.slice A2 x.f2.length c2],rfl,rfl,⟨[.int .i64 x.f1],[.slice A2 x.f2.length c2],rfl,rfl,⟨A2,c2,rfl,l2,g2⟩⟩⟩
theorem k24_mkM (w:World) (base:Nat) (ok:Nat→Prop) (x:S24) {v2:Value} (g2:k46.R 46 w base ok v2 x.f2):k24.M w base ok x [.int .i64 x.f0,.int .i64 x.f1,v2]:=⟨[.int .i64 x.f0],[.int .i64 x.f1,v2],rfl,rfl,⟨[.int .i64 x.f1],[v2],rfl,rfl,⟨v2,rfl,g2⟩⟩⟩
def rd_T24 (xs:List S24) (i:Int):S24:=xs.getD i.toNat z24
theorem at_T24 {w:World} {A:Option Addr} {n:Nat} {xs:List S24} (h:Kd.C k24 w A n xs) (i:Int) (h0:0≤i) (h1:i< n):∃ ad A2 c2,A=some ad∧w.cell? (ad.add (i.toNat * 3))=some (.int .i64 (rd_T24 xs i).f0)∧w.cell? ⟨(ad.add (i.toNat * 3)).block,(ad.add (i.toNat * 3)).off+1,none⟩=some (.int .i64 (rd_T24 xs i).f1)∧w.cell? ⟨(ad.add (i.toNat * 3)).block,(ad.add (i.toNat * 3)).off+2,none⟩=some (.slice A2 (rd_T24 xs i).f2.length c2)∧(rd_T24 xs i).f2.length≤c2∧k46.C w A2 (rd_T24 xs i).f2.length (rd_T24 xs i).f2:=by
  obtain⟨ad,c,e,_,hK,hc0⟩:=Kd.C_get h z24 i h0 h1
  have hc:∀ j u,c[j]?=some u→w.cell? (ad.add (i.toNat * 3+j))=some u:=hc0
  obtain⟨A2,c2,rfl,l2,g2⟩:=k24_open hK
  exact⟨ad,A2,c2,e,hc 0 _ rfl,by rw[← add_field _ _ 1 (by omega)];exact hc 1 _ rfl,by rw[← add_field _ _ 2 (by omega)];exact hc 2 _ rfl,l2,g2⟩

/-! #### struct type 26 -/
structure S26 where
  f0:Int
  f1:S24
  f2:ByteArray
  f3:Int
def z26:S26:=⟨(0:Int),z24,(⟨#[]⟩:ByteArray),(0:Int)⟩
def k26:Kd S26:=Kd.iso (Kd.pair (Kd.int .i64) (Kd.pair k24 (Kd.pair Kd.string (Kd.int .i64)))) (fun x:S26=> (x.f0,x.f1,x.f2,x.f3))
theorem k26_open {w:World} {x:S26} {cs:List Value} (h:k26.K w x cs):∃ A3 c3,cs=[.int .i64 x.f0,.int .i64 x.f1.f0,.int .i64 x.f1.f1,.slice A3 x.f1.f2.length c3,.string x.f2,.int .i64 x.f3]∧x.f1.f2.length≤c3∧k46.C w A3 x.f1.f2.length x.f1.f2:=by
  obtain⟨_,_,rfl,rfl,⟨_,_,rfl,s1,⟨_,_,rfl,rfl,rfl⟩⟩⟩:=h
  obtain⟨A3,c3,rfl,l3,g3⟩:=k24_open s1
  exact⟨A3,c3,rfl,l3,g3⟩
theorem k26_openM {w:World} {base:Nat} {ok:Nat→Prop} {x:S26} {cs:List Value} (h:k26.M w base ok x cs):∃ v3,cs=[.int .i64 x.f0,.int .i64 x.f1.f0,.int .i64 x.f1.f1,v3,.string x.f2,.int .i64 x.f3]∧k46.R 46 w base ok v3 x.f1.f2:=by
  obtain⟨_,_,rfl,rfl,⟨_,_,rfl,s1,⟨_,_,rfl,rfl,rfl⟩⟩⟩:=h
  obtain⟨v3,rfl,g3⟩:=k24_openM s1
  exact⟨v3,rfl,g3⟩
theorem k26_mk (w:World) (x:S26) {A3:Option Addr} {c3:Nat} (l3:x.f1.f2.length≤c3) (g3:k46.C w A3 x.f1.f2.length x.f1.f2):k26.K w x [.int .i64 x.f0,.int .i64 x.f1.f0,.int .i64 x.f1.f1,.slice A3 x.f1.f2.length c3,.string x.f2,.int .i64 x.f3]:=⟨[.int .i64 x.f0],[.int .i64 x.f1.f0,.int .i64 x.f1.f1,.slice A3 x.f1.f2.length c3,.string x.f2,.int .i64 x.f3],rfl,rfl,⟨[.int .i64 x.f1.f0,.int .i64 x.f1.f1,.slice A3 x.f1.f2.length c3],[.string x.f2,.int .i64 x.f3],rfl,(k24_mk w x.f1 l3 g3),⟨[.string x.f2],[.int .i64 x.f3],rfl,rfl,rfl⟩⟩⟩
theorem k26_mkM (w:World) (base:Nat) (ok:Nat→Prop) (x:S26) {v3:Value} (g3:k46.R 46 w base ok v3 x.f1.f2):k26.M w base ok x [.int .i64 x.f0,.int .i64 x.f1.f0,.int .i64 x.f1.f1,v3,.string x.f2,.int .i64 x.f3]:=⟨[.int .i64 x.f0],[.int .i64 x.f1.f0,.int .i64 x.f1.f1,v3,.string x.f2,.int .i64 x.f3],rfl,rfl,⟨[.int .i64 x.f1.f0,.int .i64 x.f1.f1,v3],[.string x.f2,.int .i64 x.f3],rfl,(k24_mkM w base ok x.f1 g3),⟨[.string x.f2],[.int .i64 x.f3],rfl,rfl,rfl⟩⟩⟩
def rd_T26 (xs:List S26) (i:Int):S26:=xs.getD i.toNat z26
theorem at_T26 {w:World} {A:Option Addr} {n:Nat} {xs:List S26} (h:Kd.C k26 w A n xs) (i:Int) (h0:0≤i) (h1:i< n):∃ ad A3 c3,A=some ad∧w.cell? (ad.add (i.toNat * 6))=some (.int .i64 (rd_T26 xs i).f0)∧w.cell? ⟨(ad.add (i.toNat * 6)).block,(ad.add (i.toNat * 6)).off+1,none⟩=some (.int .i64 (rd_T26 xs i).f1.f0)∧w.cell? ⟨(ad.add (i.toNat * 6)).block,(ad.add (i.toNat * 6)).off+2,none⟩=some (.int .i64 (rd_T26 xs i).f1.f1)∧w.cell? ⟨(ad.add (i.toNat * 6)).block,(ad.add (i.toNat * 6)).off+3,none⟩=some (.slice A3 (rd_T26 xs i).f1.f2.length c3)∧w.cell? ⟨(ad.add (i.toNat * 6)).block,(ad.add (i.toNat * 6)).off+4,none⟩=some (.string (rd_T26 xs i).f2)∧w.cell? ⟨(ad.add (i.toNat * 6)).block,(ad.add (i.toNat * 6)).off+5,none⟩=some (.int .i64 (rd_T26 xs i).f3)∧(rd_T26 xs i).f1.f2.length≤c3∧k46.C w A3 (rd_T26 xs i).f1.f2.length (rd_T26 xs i).f1.f2:=by
  obtain⟨ad,c,e,_,hK,hc0⟩:=Kd.C_get h z26 i h0 h1
  have hc:∀ j u,c[j]?=some u→w.cell? (ad.add (i.toNat * 6+j))=some u:=hc0
  obtain⟨A3,c3,rfl,l3,g3⟩:=k26_open hK
  exact⟨ad,A3,c3,e,hc 0 _ rfl,by rw[← add_field _ _ 1 (by omega)];exact hc 1 _ rfl,by rw[← add_field _ _ 2 (by omega)];exact hc 2 _ rfl,by rw[← add_field _ _ 3 (by omega)];exact hc 3 _ rfl,by rw[← add_field _ _ 4 (by omega)];exact hc 4 _ rfl,by rw[← add_field _ _ 5 (by omega)];exact hc 5 _ rfl,l3,g3⟩

/-! #### struct type 28 -/
structure S28 where
  f0:Int
  f1:Int
  f2:Int
  f3:Int
  f4:Int
  f5:Int
  f6:S26
def z28:S28:=⟨(0:Int),(0:Int),(0:Int),(0:Int),(0:Int),(0:Int),z26⟩
def k28:Kd S28:=Kd.iso (Kd.pair (Kd.int .i64) (Kd.pair (Kd.int .i64) (Kd.pair (Kd.int .i64) (Kd.pair (Kd.int .i64) (Kd.pair (Kd.int .i64) (Kd.pair (Kd.int .i64) k26)))))) (fun x:S28=> (x.f0,x.f1,x.f2,x.f3,x.f4,x.f5,x.f6))
theorem k28_open {w:World} {x:S28} {cs:List Value} (h:k28.K w x cs):∃ A9 c9,cs=[.int .i64 x.f0,.int .i64 x.f1,.int .i64 x.f2,.int .i64 x.f3,.int .i64 x.f4,.int .i64 x.f5,.int .i64 x.f6.f0,.int .i64 x.f6.f1.f0,.int .i64 x.f6.f1.f1,.slice A9 x.f6.f1.f2.length c9,.string x.f6.f2,.int .i64 x.f6.f3]∧x.f6.f1.f2.length≤c9∧k46.C w A9 x.f6.f1.f2.length x.f6.f1.f2:=by
  obtain⟨_,_,rfl,rfl,⟨_,_,rfl,rfl,⟨_,_,rfl,rfl,⟨_,_,rfl,rfl,⟨_,_,rfl,rfl,⟨_,_,rfl,rfl,s6⟩⟩⟩⟩⟩⟩:=h
  obtain⟨A9,c9,rfl,l9,g9⟩:=k26_open s6
  exact⟨A9,c9,rfl,l9,g9⟩
theorem k28_openM {w:World} {base:Nat} {ok:Nat→Prop} {x:S28} {cs:List Value} (h:k28.M w base ok x cs):∃ v9,cs=[.int .i64 x.f0,.int .i64 x.f1,.int .i64 x.f2,.int .i64 x.f3,.int .i64 x.f4,.int .i64 x.f5,.int .i64 x.f6.f0,.int .i64 x.f6.f1.f0,.int .i64 x.f6.f1.f1,v9,.string x.f6.f2,.int .i64 x.f6.f3]∧k46.R 46 w base ok v9 x.f6.f1.f2:=by
  obtain⟨_,_,rfl,rfl,⟨_,_,rfl,rfl,⟨_,_,rfl,rfl,⟨_,_,rfl,rfl,⟨_,_,rfl,rfl,⟨_,_,rfl,rfl,s6⟩⟩⟩⟩⟩⟩:=h
  obtain⟨v9,rfl,g9⟩:=k26_openM s6
  exact⟨v9,rfl,g9⟩
theorem k28_mk (w:World) (x:S28) {A9:Option Addr} {c9:Nat} (l9:x.f6.f1.f2.length≤c9) (g9:k46.C w A9 x.f6.f1.f2.length x.f6.f1.f2):k28.K w x [.int .i64 x.f0,.int .i64 x.f1,.int .i64 x.f2,.int .i64 x.f3,.int .i64 x.f4,.int .i64 x.f5,.int .i64 x.f6.f0,.int .i64 x.f6.f1.f0,.int .i64 x.f6.f1.f1,.slice A9 x.f6.f1.f2.length c9,.string x.f6.f2,.int .i64 x.f6.f3]:=⟨[.int .i64 x.f0],[.int .i64 x.f1,.int .i64 x.f2,.int .i64 x.f3,.int .i64 x.f4,.int .i64 x.f5,.int .i64 x.f6.f0,.int .i64 x.f6.f1.f0,.int .i64 x.f6.f1.f1,.slice A9 x.f6.f1.f2.length c9,.string x.f6.f2,.int .i64 x.f6.f3],rfl,rfl,⟨[.int .i64 x.f1],[.int .i64 x.f2,.int .i64 x.f3,.int .i64 x.f4,.int .i64 x.f5,.int .i64 x.f6.f0,.int .i64 x.f6.f1.f0,.int .i64 x.f6.f1.f1,.slice A9 x.f6.f1.f2.length c9,.string x.f6.f2,.int .i64 x.f6.f3],rfl,rfl,⟨[.int .i64 x.f2],[.int .i64 x.f3,.int .i64 x.f4,.int .i64 x.f5,.int .i64 x.f6.f0,.int .i64 x.f6.f1.f0,.int .i64 x.f6.f1.f1,.slice A9 x.f6.f1.f2.length c9,.string x.f6.f2,.int .i64 x.f6.f3],rfl,rfl,⟨[.int .i64 x.f3],[.int .i64 x.f4,.int .i64 x.f5,.int .i64 x.f6.f0,.int .i64 x.f6.f1.f0,.int .i64 x.f6.f1.f1,.slice A9 x.f6.f1.f2.length c9,.string x.f6.f2,.int .i64 x.f6.f3],rfl,rfl,⟨[.int .i64 x.f4],[.int .i64 x.f5,.int .i64 x.f6.f0,.int .i64 x.f6.f1.f0,.int .i64 x.f6.f1.f1,.slice A9 x.f6.f1.f2.length c9,.string x.f6.f2,.int .i64 x.f6.f3],rfl,rfl,⟨[.int .i64 x.f5],[.int .i64 x.f6.f0,.int .i64 x.f6.f1.f0,.int .i64 x.f6.f1.f1,.slice A9 x.f6.f1.f2.length c9,.string x.f6.f2,.int .i64 x.f6.f3],rfl,rfl,(k26_mk w x.f6 l9 g9)⟩⟩⟩⟩⟩⟩
theorem k28_mkM (w:World) (base:Nat) (ok:Nat→Prop) (x:S28) {v9:Value} (g9:k46.R 46 w base ok v9 x.f6.f1.f2):k28.M w base ok x [.int .i64 x.f0,.int .i64 x.f1,.int .i64 x.f2,.int .i64 x.f3,.int .i64 x.f4,.int .i64 x.f5,.int .i64 x.f6.f0,.int .i64 x.f6.f1.f0,.int .i64 x.f6.f1.f1,v9,.string x.f6.f2,.int .i64 x.f6.f3]:=⟨[.int .i64 x.f0],[.int .i64 x.f1,.int .i64 x.f2,.int .i64 x.f3,.int .i64 x.f4,.int .i64 x.f5,.int .i64 x.f6.f0,.int .i64 x.f6.f1.f0,.int .i64 x.f6.f1.f1,v9,.string x.f6.f2,.int .i64 x.f6.f3],rfl,rfl,⟨[.int .i64 x.f1],[.int .i64 x.f2,.int .i64 x.f3,.int .i64 x.f4,.int .i64 x.f5,.int .i64 x.f6.f0,.int .i64 x.f6.f1.f0,.int .i64 x.f6.f1.f1,v9,.string x.f6.f2,.int .i64 x.f6.f3],rfl,rfl,⟨[.int .i64 x.f2],[.int .i64 x.f3,.int .i64 x.f4,.int .i64 x.f5,.int .i64 x.f6.f0,.int .i64 x.f6.f1.f0,.int .i64 x.f6.f1.f1,v9,.string x.f6.f2,.int .i64 x.f6.f3],rfl,rfl,⟨[.int .i64 x.f3],[.int .i64 x.f4,.int .i64 x.f5,.int .i64 x.f6.f0,.int .i64 x.f6.f1.f0,.int .i64 x.f6.f1.f1,v9,.string x.f6.f2,.int .i64 x.f6.f3],rfl,rfl,⟨[.int .i64 x.f4],[.int .i64 x.f5,.int .i64 x.f6.f0,.int .i64 x.f6.f1.f0,.int .i64 x.f6.f1.f1,v9,.string x.f6.f2,.int .i64 x.f6.f3],rfl,rfl,⟨[.int .i64 x.f5],[.int .i64 x.f6.f0,.int .i64 x.f6.f1.f0,.int .i64 x.f6.f1.f1,v9,.string x.f6.f2,.int .i64 x.f6.f3],rfl,rfl,(k26_mkM w base ok x.f6 g9)⟩⟩⟩⟩⟩⟩
def rd_T28 (xs:List S28) (i:Int):S28:=xs.getD i.toNat z28
theorem at_T28 {w:World} {A:Option Addr} {n:Nat} {xs:List S28} (h:Kd.C k28 w A n xs) (i:Int) (h0:0≤i) (h1:i< n):∃ ad A9 c9,A=some ad∧w.cell? (ad.add (i.toNat * 12))=some (.int .i64 (rd_T28 xs i).f0)∧w.cell? ⟨(ad.add (i.toNat * 12)).block,(ad.add (i.toNat * 12)).off+1,none⟩=some (.int .i64 (rd_T28 xs i).f1)∧w.cell? ⟨(ad.add (i.toNat * 12)).block,(ad.add (i.toNat * 12)).off+2,none⟩=some (.int .i64 (rd_T28 xs i).f2)∧w.cell? ⟨(ad.add (i.toNat * 12)).block,(ad.add (i.toNat * 12)).off+3,none⟩=some (.int .i64 (rd_T28 xs i).f3)∧w.cell? ⟨(ad.add (i.toNat * 12)).block,(ad.add (i.toNat * 12)).off+4,none⟩=some (.int .i64 (rd_T28 xs i).f4)∧w.cell? ⟨(ad.add (i.toNat * 12)).block,(ad.add (i.toNat * 12)).off+5,none⟩=some (.int .i64 (rd_T28 xs i).f5)∧w.cell? ⟨(ad.add (i.toNat * 12)).block,(ad.add (i.toNat * 12)).off+6,none⟩=some (.int .i64 (rd_T28 xs i).f6.f0)∧w.cell? ⟨(ad.add (i.toNat * 12)).block,(ad.add (i.toNat * 12)).off+7,none⟩=some (.int .i64 (rd_T28 xs i).f6.f1.f0)∧w.cell? ⟨(ad.add (i.toNat * 12)).block,(ad.add (i.toNat * 12)).off+8,none⟩=some (.int .i64 (rd_T28 xs i).f6.f1.f1)∧w.cell? ⟨(ad.add (i.toNat * 12)).block,(ad.add (i.toNat * 12)).off+9,none⟩=some (.slice A9 (rd_T28 xs i).f6.f1.f2.length c9)∧w.cell? ⟨(ad.add (i.toNat * 12)).block,(ad.add (i.toNat * 12)).off+10,none⟩=some (.string (rd_T28 xs i).f6.f2)∧w.cell? ⟨(ad.add (i.toNat * 12)).block,(ad.add (i.toNat * 12)).off+11,none⟩=some (.int .i64 (rd_T28 xs i).f6.f3)∧(rd_T28 xs i).f6.f1.f2.length≤c9∧k46.C w A9 (rd_T28 xs i).f6.f1.f2.length (rd_T28 xs i).f6.f1.f2:=by
  obtain⟨ad,c,e,_,hK,hc0⟩:=Kd.C_get h z28 i h0 h1
  have hc:∀ j u,c[j]?=some u→w.cell? (ad.add (i.toNat * 12+j))=some u:=hc0
  obtain⟨A9,c9,rfl,l9,g9⟩:=k28_open hK
  exact⟨ad,A9,c9,e,hc 0 _ rfl,by rw[← add_field _ _ 1 (by omega)];exact hc 1 _ rfl,by rw[← add_field _ _ 2 (by omega)];exact hc 2 _ rfl,by rw[← add_field _ _ 3 (by omega)];exact hc 3 _ rfl,by rw[← add_field _ _ 4 (by omega)];exact hc 4 _ rfl,by rw[← add_field _ _ 5 (by omega)];exact hc 5 _ rfl,by rw[← add_field _ _ 6 (by omega)];exact hc 6 _ rfl,by rw[← add_field _ _ 7 (by omega)];exact hc 7 _ rfl,by rw[← add_field _ _ 8 (by omega)];exact hc 8 _ rfl,by rw[← add_field _ _ 9 (by omega)];exact hc 9 _ rfl,by rw[← add_field _ _ 10 (by omega)];exact hc 10 _ rfl,by rw[← add_field _ _ 11 (by omega)];exact hc 11 _ rfl,l9,g9⟩

theorem am {p:Prop} (h:p):Aside0 p:=⟨h⟩
@[reducible] def i6 (n:Int):Value:=.int .i64 n
theorem bc2 {w:World} {g:Nat} {a0 a1:Value} {t:TypeId} (h:w.heap[g]?=some (.cells #[a0,a1] t (0,0))):w.cell? ⟨g,0,none⟩=some a0∧w.cell? ⟨g,1,none⟩=some a1:=⟨(blk_cell h 0).trans rfl,(blk_cell h 1).trans rfl⟩
theorem bf2 {w:World} {g:Nat} {a0 a1:Value} {t:TypeId} (h:w.heap[g]?=some (.cells #[a0,a1] t (0,0))):w.frozen? ⟨g,0,none⟩=false∧w.frozen? ⟨g,1,none⟩=false:=⟨blk_frozen h 0,blk_frozen h 1⟩
theorem be2 {w:World} {g:Nat} {a0 a1:Value} {t:TypeId} (h:w.heap[g]?=some (.cells #[a0,a1] t (0,0))):w.cell? ⟨g,0,none⟩=some a0∧w.frozen? ⟨g,0,none⟩=false∧w.cell? ⟨g,1,none⟩=some a1∧w.frozen? ⟨g,1,none⟩=false:=⟨(blk_cell h 0).trans rfl,blk_frozen h 0,(blk_cell h 1).trans rfl,blk_frozen h 1⟩
theorem bc3 {w:World} {g:Nat} {a0 a1 a2:Value} {t:TypeId} (h:w.heap[g]?=some (.cells #[a0,a1,a2] t (0,0))):w.cell? ⟨g,0,none⟩=some a0∧w.cell? ⟨g,1,none⟩=some a1∧w.cell? ⟨g,2,none⟩=some a2:=⟨(blk_cell h 0).trans rfl,(blk_cell h 1).trans rfl,(blk_cell h 2).trans rfl⟩
theorem bf3 {w:World} {g:Nat} {a0 a1 a2:Value} {t:TypeId} (h:w.heap[g]?=some (.cells #[a0,a1,a2] t (0,0))):w.frozen? ⟨g,0,none⟩=false∧w.frozen? ⟨g,1,none⟩=false∧w.frozen? ⟨g,2,none⟩=false:=⟨blk_frozen h 0,blk_frozen h 1,blk_frozen h 2⟩
theorem be3 {w:World} {g:Nat} {a0 a1 a2:Value} {t:TypeId} (h:w.heap[g]?=some (.cells #[a0,a1,a2] t (0,0))):w.cell? ⟨g,0,none⟩=some a0∧w.frozen? ⟨g,0,none⟩=false∧w.cell? ⟨g,1,none⟩=some a1∧w.frozen? ⟨g,1,none⟩=false∧w.cell? ⟨g,2,none⟩=some a2∧w.frozen? ⟨g,2,none⟩=false:=⟨(blk_cell h 0).trans rfl,blk_frozen h 0,(blk_cell h 1).trans rfl,blk_frozen h 1,(blk_cell h 2).trans rfl,blk_frozen h 2⟩
theorem bc6 {w:World} {g:Nat} {a0 a1 a2 a3 a4 a5:Value} {t:TypeId} (h:w.heap[g]?=some (.cells #[a0,a1,a2,a3,a4,a5] t (0,0))):w.cell? ⟨g,0,none⟩=some a0∧w.cell? ⟨g,1,none⟩=some a1∧w.cell? ⟨g,2,none⟩=some a2∧w.cell? ⟨g,3,none⟩=some a3∧w.cell? ⟨g,4,none⟩=some a4∧w.cell? ⟨g,5,none⟩=some a5:=⟨(blk_cell h 0).trans rfl,(blk_cell h 1).trans rfl,(blk_cell h 2).trans rfl,(blk_cell h 3).trans rfl,(blk_cell h 4).trans rfl,(blk_cell h 5).trans rfl⟩
theorem bf6 {w:World} {g:Nat} {a0 a1 a2 a3 a4 a5:Value} {t:TypeId} (h:w.heap[g]?=some (.cells #[a0,a1,a2,a3,a4,a5] t (0,0))):w.frozen? ⟨g,0,none⟩=false∧w.frozen? ⟨g,1,none⟩=false∧w.frozen? ⟨g,2,none⟩=false∧w.frozen? ⟨g,3,none⟩=false∧w.frozen? ⟨g,4,none⟩=false∧w.frozen? ⟨g,5,none⟩=false:=⟨blk_frozen h 0,blk_frozen h 1,blk_frozen h 2,blk_frozen h 3,blk_frozen h 4,blk_frozen h 5⟩
theorem be6 {w:World} {g:Nat} {a0 a1 a2 a3 a4 a5:Value} {t:TypeId} (h:w.heap[g]?=some (.cells #[a0,a1,a2,a3,a4,a5] t (0,0))):w.cell? ⟨g,0,none⟩=some a0∧w.frozen? ⟨g,0,none⟩=false∧w.cell? ⟨g,1,none⟩=some a1∧w.frozen? ⟨g,1,none⟩=false∧w.cell? ⟨g,2,none⟩=some a2∧w.frozen? ⟨g,2,none⟩=false∧w.cell? ⟨g,3,none⟩=some a3∧w.frozen? ⟨g,3,none⟩=false∧w.cell? ⟨g,4,none⟩=some a4∧w.frozen? ⟨g,4,none⟩=false∧w.cell? ⟨g,5,none⟩=some a5∧w.frozen? ⟨g,5,none⟩=false:=⟨(blk_cell h 0).trans rfl,blk_frozen h 0,(blk_cell h 1).trans rfl,blk_frozen h 1,(blk_cell h 2).trans rfl,blk_frozen h 2,(blk_cell h 3).trans rfl,blk_frozen h 3,(blk_cell h 4).trans rfl,blk_frozen h 4,(blk_cell h 5).trans rfl,blk_frozen h 5⟩
theorem be8 {w:World} {g:Nat} {a0 a1 a2 a3 a4 a5 a6 a7:Value} {t:TypeId} (h:w.heap[g]?=some (.cells #[a0,a1,a2,a3,a4,a5,a6,a7] t (0,0))):w.cell? ⟨g,0,none⟩=some a0∧w.frozen? ⟨g,0,none⟩=false∧w.cell? ⟨g,1,none⟩=some a1∧w.frozen? ⟨g,1,none⟩=false∧w.cell? ⟨g,2,none⟩=some a2∧w.frozen? ⟨g,2,none⟩=false∧w.cell? ⟨g,3,none⟩=some a3∧w.frozen? ⟨g,3,none⟩=false∧w.cell? ⟨g,4,none⟩=some a4∧w.frozen? ⟨g,4,none⟩=false∧w.cell? ⟨g,5,none⟩=some a5∧w.frozen? ⟨g,5,none⟩=false∧w.cell? ⟨g,6,none⟩=some a6∧w.frozen? ⟨g,6,none⟩=false∧w.cell? ⟨g,7,none⟩=some a7∧w.frozen? ⟨g,7,none⟩=false:=⟨(blk_cell h 0).trans rfl,blk_frozen h 0,(blk_cell h 1).trans rfl,blk_frozen h 1,(blk_cell h 2).trans rfl,blk_frozen h 2,(blk_cell h 3).trans rfl,blk_frozen h 3,(blk_cell h 4).trans rfl,blk_frozen h 4,(blk_cell h 5).trans rfl,blk_frozen h 5,(blk_cell h 6).trans rfl,blk_frozen h 6,(blk_cell h 7).trans rfl,blk_frozen h 7⟩
theorem bc12 {w:World} {g:Nat} {a0 a1 a2 a3 a4 a5 a6 a7 a8 a9 a10 a11:Value} {t:TypeId} (h:w.heap[g]?=some (.cells #[a0,a1,a2,a3,a4,a5,a6,a7,a8,a9,a10,a11] t (0,0))):w.cell? ⟨g,0,none⟩=some a0∧w.cell? ⟨g,1,none⟩=some a1∧w.cell? ⟨g,2,none⟩=some a2∧w.cell? ⟨g,3,none⟩=some a3∧w.cell? ⟨g,4,none⟩=some a4∧w.cell? ⟨g,5,none⟩=some a5∧w.cell? ⟨g,6,none⟩=some a6∧w.cell? ⟨g,7,none⟩=some a7∧w.cell? ⟨g,8,none⟩=some a8∧w.cell? ⟨g,9,none⟩=some a9∧w.cell? ⟨g,10,none⟩=some a10∧w.cell? ⟨g,11,none⟩=some a11:=⟨(blk_cell h 0).trans rfl,(blk_cell h 1).trans rfl,(blk_cell h 2).trans rfl,(blk_cell h 3).trans rfl,(blk_cell h 4).trans rfl,(blk_cell h 5).trans rfl,(blk_cell h 6).trans rfl,(blk_cell h 7).trans rfl,(blk_cell h 8).trans rfl,(blk_cell h 9).trans rfl,(blk_cell h 10).trans rfl,(blk_cell h 11).trans rfl⟩
theorem bf12 {w:World} {g:Nat} {a0 a1 a2 a3 a4 a5 a6 a7 a8 a9 a10 a11:Value} {t:TypeId} (h:w.heap[g]?=some (.cells #[a0,a1,a2,a3,a4,a5,a6,a7,a8,a9,a10,a11] t (0,0))):w.frozen? ⟨g,0,none⟩=false∧w.frozen? ⟨g,1,none⟩=false∧w.frozen? ⟨g,2,none⟩=false∧w.frozen? ⟨g,3,none⟩=false∧w.frozen? ⟨g,4,none⟩=false∧w.frozen? ⟨g,5,none⟩=false∧w.frozen? ⟨g,6,none⟩=false∧w.frozen? ⟨g,7,none⟩=false∧w.frozen? ⟨g,8,none⟩=false∧w.frozen? ⟨g,9,none⟩=false∧w.frozen? ⟨g,10,none⟩=false∧w.frozen? ⟨g,11,none⟩=false:=⟨blk_frozen h 0,blk_frozen h 1,blk_frozen h 2,blk_frozen h 3,blk_frozen h 4,blk_frozen h 5,blk_frozen h 6,blk_frozen h 7,blk_frozen h 8,blk_frozen h 9,blk_frozen h 10,blk_frozen h 11⟩
theorem be12 {w:World} {g:Nat} {a0 a1 a2 a3 a4 a5 a6 a7 a8 a9 a10 a11:Value} {t:TypeId} (h:w.heap[g]?=some (.cells #[a0,a1,a2,a3,a4,a5,a6,a7,a8,a9,a10,a11] t (0,0))):w.cell? ⟨g,0,none⟩=some a0∧w.frozen? ⟨g,0,none⟩=false∧w.cell? ⟨g,1,none⟩=some a1∧w.frozen? ⟨g,1,none⟩=false∧w.cell? ⟨g,2,none⟩=some a2∧w.frozen? ⟨g,2,none⟩=false∧w.cell? ⟨g,3,none⟩=some a3∧w.frozen? ⟨g,3,none⟩=false∧w.cell? ⟨g,4,none⟩=some a4∧w.frozen? ⟨g,4,none⟩=false∧w.cell? ⟨g,5,none⟩=some a5∧w.frozen? ⟨g,5,none⟩=false∧w.cell? ⟨g,6,none⟩=some a6∧w.frozen? ⟨g,6,none⟩=false∧w.cell? ⟨g,7,none⟩=some a7∧w.frozen? ⟨g,7,none⟩=false∧w.cell? ⟨g,8,none⟩=some a8∧w.frozen? ⟨g,8,none⟩=false∧w.cell? ⟨g,9,none⟩=some a9∧w.frozen? ⟨g,9,none⟩=false∧w.cell? ⟨g,10,none⟩=some a10∧w.frozen? ⟨g,10,none⟩=false∧w.cell? ⟨g,11,none⟩=some a11∧w.frozen? ⟨g,11,none⟩=false:=⟨(blk_cell h 0).trans rfl,blk_frozen h 0,(blk_cell h 1).trans rfl,blk_frozen h 1,(blk_cell h 2).trans rfl,blk_frozen h 2,(blk_cell h 3).trans rfl,blk_frozen h 3,(blk_cell h 4).trans rfl,blk_frozen h 4,(blk_cell h 5).trans rfl,blk_frozen h 5,(blk_cell h 6).trans rfl,blk_frozen h 6,(blk_cell h 7).trans rfl,blk_frozen h 7,(blk_cell h 8).trans rfl,blk_frozen h 8,(blk_cell h 9).trans rfl,blk_frozen h 9,(blk_cell h 10).trans rfl,blk_frozen h 10,(blk_cell h 11).trans rfl,blk_frozen h 11⟩
theorem be16 {w:World} {g:Nat} {a0 a1 a2 a3 a4 a5 a6 a7 a8 a9 a10 a11 a12 a13 a14 a15:Value} {t:TypeId} (h:w.heap[g]?=some (.cells #[a0,a1,a2,a3,a4,a5,a6,a7,a8,a9,a10,a11,a12,a13,a14,a15] t (0,0))):w.cell? ⟨g,0,none⟩=some a0∧w.frozen? ⟨g,0,none⟩=false∧w.cell? ⟨g,1,none⟩=some a1∧w.frozen? ⟨g,1,none⟩=false∧w.cell? ⟨g,2,none⟩=some a2∧w.frozen? ⟨g,2,none⟩=false∧w.cell? ⟨g,3,none⟩=some a3∧w.frozen? ⟨g,3,none⟩=false∧w.cell? ⟨g,4,none⟩=some a4∧w.frozen? ⟨g,4,none⟩=false∧w.cell? ⟨g,5,none⟩=some a5∧w.frozen? ⟨g,5,none⟩=false∧w.cell? ⟨g,6,none⟩=some a6∧w.frozen? ⟨g,6,none⟩=false∧w.cell? ⟨g,7,none⟩=some a7∧w.frozen? ⟨g,7,none⟩=false∧w.cell? ⟨g,8,none⟩=some a8∧w.frozen? ⟨g,8,none⟩=false∧w.cell? ⟨g,9,none⟩=some a9∧w.frozen? ⟨g,9,none⟩=false∧w.cell? ⟨g,10,none⟩=some a10∧w.frozen? ⟨g,10,none⟩=false∧w.cell? ⟨g,11,none⟩=some a11∧w.frozen? ⟨g,11,none⟩=false∧w.cell? ⟨g,12,none⟩=some a12∧w.frozen? ⟨g,12,none⟩=false∧w.cell? ⟨g,13,none⟩=some a13∧w.frozen? ⟨g,13,none⟩=false∧w.cell? ⟨g,14,none⟩=some a14∧w.frozen? ⟨g,14,none⟩=false∧w.cell? ⟨g,15,none⟩=some a15∧w.frozen? ⟨g,15,none⟩=false:=⟨(blk_cell h 0).trans rfl,blk_frozen h 0,(blk_cell h 1).trans rfl,blk_frozen h 1,(blk_cell h 2).trans rfl,blk_frozen h 2,(blk_cell h 3).trans rfl,blk_frozen h 3,(blk_cell h 4).trans rfl,blk_frozen h 4,(blk_cell h 5).trans rfl,blk_frozen h 5,(blk_cell h 6).trans rfl,blk_frozen h 6,(blk_cell h 7).trans rfl,blk_frozen h 7,(blk_cell h 8).trans rfl,blk_frozen h 8,(blk_cell h 9).trans rfl,blk_frozen h 9,(blk_cell h 10).trans rfl,blk_frozen h 10,(blk_cell h 11).trans rfl,blk_frozen h 11,(blk_cell h 12).trans rfl,blk_frozen h 12,(blk_cell h 13).trans rfl,blk_frozen h 13,(blk_cell h 14).trans rfl,blk_frozen h 14,(blk_cell h 15).trans rfl,blk_frozen h 15⟩
theorem an3 {p0 p1 p2 r:Prop} (h:p0∧p1∧p2) (k:r):p0∧p1∧p2∧r:=⟨h.1,h.2.1,h.2.2,k⟩
theorem an6 {p0 p1 p2 p3 p4 p5 r:Prop} (h:p0∧p1∧p2∧p3∧p4∧p5) (k:r):p0∧p1∧p2∧p3∧p4∧p5∧r:=⟨h.1,h.2.1,h.2.2.1,h.2.2.2.1,h.2.2.2.2.1,h.2.2.2.2.2,k⟩
def rl':Bool→List Nat→List Bool
 |_,[]=> []
 |b,n :: l=> List.replicate n b++rl' (!b) l
def rl:List Nat→Array Bool:=fun l=> (rl' true l).toArray
theorem rf {α:Type} {d:Kd α} {e:Nat} {w:World} {base g j:Nat} {ok:Nat→Prop} {v u:Value} {xs:List α} (h:d.R e w base (fun k=> ok k∧k≠g) v xs):d.R e (w.setCell ⟨g,j,none⟩ u) base (fun k=> ok k∧k≠g) v xs:=Kd.R_far h (fun _ hk=> hk.2) u
theorem bp {w:World} {g:Nat} {t:TypeId} {cs:Array Value} (h:w.heap[g]?=some (.cells cs t (0,0))) (i:Nat) {u:Value}:(w.setCell ⟨g,i,none⟩ u).heap[g]?=some (.cells (cs.setIfInBounds i u) t (0,0)):=blk_put h i u rfl
theorem bs3 {w W:World} {g j0 j1 j2:Nat} {v0 v1 v2:Value} (h:Below w.heap.size w W) (k:w.heap.size≤g):Below w.heap.size w (((W.setCell ⟨g,j0,none⟩ v0).setCell ⟨g,j1,none⟩ v1).setCell ⟨g,j2,none⟩ v2):=below_set (below_set (below_set h k) k) k
theorem bs6 {w W:World} {g j0 j1 j2 j3 j4 j5:Nat} {v0 v1 v2 v3 v4 v5:Value} (h:Below w.heap.size w W) (k:w.heap.size≤g):Below w.heap.size w ((((((W.setCell ⟨g,j0,none⟩ v0).setCell ⟨g,j1,none⟩ v1).setCell ⟨g,j2,none⟩ v2).setCell ⟨g,j3,none⟩ v3).setCell ⟨g,j4,none⟩ v4).setCell ⟨g,j5,none⟩ v5):=below_set (below_set (below_set (below_set (below_set (below_set h k) k) k) k) k) k
theorem bs12 {w W:World} {g j0 j1 j2 j3 j4 j5 j6 j7 j8 j9 j10 j11:Nat} {v0 v1 v2 v3 v4 v5 v6 v7 v8 v9 v10 v11:Value} (h:Below w.heap.size w W) (k:w.heap.size≤g):Below w.heap.size w ((((((((((((W.setCell ⟨g,j0,none⟩ v0).setCell ⟨g,j1,none⟩ v1).setCell ⟨g,j2,none⟩ v2).setCell ⟨g,j3,none⟩ v3).setCell ⟨g,j4,none⟩ v4).setCell ⟨g,j5,none⟩ v5).setCell ⟨g,j6,none⟩ v6).setCell ⟨g,j7,none⟩ v7).setCell ⟨g,j8,none⟩ v8).setCell ⟨g,j9,none⟩ v9).setCell ⟨g,j10,none⟩ v10).setCell ⟨g,j11,none⟩ v11):=below_set (below_set (below_set (below_set (below_set (below_set (below_set (below_set (below_set (below_set (below_set (below_set h k) k) k) k) k) k) k) k) k) k) k) k
theorem bs16 {w W:World} {g j0 j1 j2 j3 j4 j5 j6 j7 j8 j9 j10 j11 j12 j13 j14 j15:Nat} {v0 v1 v2 v3 v4 v5 v6 v7 v8 v9 v10 v11 v12 v13 v14 v15:Value} (h:Below w.heap.size w W) (k:w.heap.size≤g):Below w.heap.size w ((((((((((((((((W.setCell ⟨g,j0,none⟩ v0).setCell ⟨g,j1,none⟩ v1).setCell ⟨g,j2,none⟩ v2).setCell ⟨g,j3,none⟩ v3).setCell ⟨g,j4,none⟩ v4).setCell ⟨g,j5,none⟩ v5).setCell ⟨g,j6,none⟩ v6).setCell ⟨g,j7,none⟩ v7).setCell ⟨g,j8,none⟩ v8).setCell ⟨g,j9,none⟩ v9).setCell ⟨g,j10,none⟩ v10).setCell ⟨g,j11,none⟩ v11).setCell ⟨g,j12,none⟩ v12).setCell ⟨g,j13,none⟩ v13).setCell ⟨g,j14,none⟩ v14).setCell ⟨g,j15,none⟩ v15):=below_set (below_set (below_set (below_set (below_set (below_set (below_set (below_set (below_set (below_set (below_set (below_set (below_set (below_set (below_set (below_set h k) k) k) k) k) k) k) k) k) k) k) k) k) k) k) k
theorem gsz {w W:World} {g:Nat} (hg:g=W.heap.size) (h:Below w.heap.size w W):w.heap.size≤g:=by rw[hg];exact below_size h
end Go.Proofs.YtlaeihdldofkcaaGreatDoor.PN

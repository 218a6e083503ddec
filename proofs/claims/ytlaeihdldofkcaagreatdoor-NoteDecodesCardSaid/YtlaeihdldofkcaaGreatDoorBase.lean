/- Small laws over numbers and lists that the plain statements of this seat share: 64-bit wraps, bits of masks, byte texts. Nothing of Go. -/
import Derived.Test.YtlaeihdldofkcaaGreatDoorPMx0
namespace Go.Proofs.YtlaeihdldofkcaaGreatDoor.B
open Go.RowKit Go.Proofs.YtlaeihdldofkcaaGreatDoorW.PrintWords

def I64 (x:Int):Prop:=-9223372036854775808≤x∧x≤9223372036854775807
def U64 (x:Int):Prop:=0≤x∧x< 18446744073709551616
theorem i64_of_wf {x:Int} (h:(Lit.int .i64 x).wf=true):I64 x:=by
  simp only[Lit.wf,IntKind.min,IntKind.max,IntKind.signed,IntKind.bits,Bool.and_eq_true,decide_eq_true_eq,if_true]at h
  unfold I64;omega
theorem wf_of_i64 {x:Int} (h:I64 x):(Lit.int .i64 x).wf=true:=by
  unfold I64 at h
  simp only[Lit.wf,IntKind.min,IntKind.max,IntKind.signed,IntKind.bits,Bool.and_eq_true,decide_eq_true_eq,if_true]
  omega
theorem wrap64_of {x:Int} (h0:-9223372036854775808≤x) (h1:x≤9223372036854775807):wrap64 x=x:=by unfold wrap64;omega
theorem wrap64_i {x:Int} (h:I64 x):wrap64 x=x:=wrap64_of h.1 h.2
theorem wrap64_range (x:Int):I64 (wrap64 x):=by unfold wrap64 I64;omega
theorem u64_wrap (x:Int):IntKind.u64.wrap x=x % 18446744073709551616:=by
  simp[IntKind.wrap,IntKind.signed,IntKind.bits]
theorem u64_in {x:Int} (h0:0≤x) (h1:x< 18446744073709551616):IntKind.u64.wrap x=x:=by rw[u64_wrap];omega

/-- More rounds, more results: for functions that have no rounds of their own. -/
theorem Ev.some {α:Type} {r q:α} (h:q=r):Ev (fun _=> Option.some q) r:=⟨0,fun _ _=> by rw[h]⟩
theorem ev_bind0 {α β:Type} {o:Option α} {f:Nat→α→Option β} {a:α} {r:β} (h:o=some a) (k:Ev (fun n=> f n a) r):Ev (fun n=> o.bind (f n)) r:=by
  subst h;exact k
theorem ev_pos {α:Type} {c:Prop} [Decidable c] {f g:Nat→Option α} {r:α} (h:c) (k:Ev f r):Ev (fun n=> if c then f n else g n) r:=by
  simpa only[if_pos h]using k
theorem ev_neg {α:Type} {c:Prop} [Decidable c] {f g:Nat→Option α} {r:α} (h:¬ c) (k:Ev g r):Ev (fun n=> if c then f n else g n) r:=by
  simpa only[if_neg h]using k
theorem ev_ite {α:Type} {c:Prop} [Decidable c] {f g:Nat→Option α} {r:α} (h:c→Ev f r) (k:¬ c→Ev g r):Ev (fun n=> if c then f n else g n) r:=by
  by_cases hc:c
  · exact ev_pos hc (h hc)
  · exact ev_neg hc (k hc)

/-! ### texts -/
theorem str_ext {a b:ByteArray} (h:a.data.toList=b.data.toList):a=b:=by
  obtain⟨⟨a⟩⟩:=a;obtain⟨⟨b⟩⟩:=b
  simp at h;subst h;rfl
theorem toList_inj {a b:ByteArray}:a.toList=b.toList ↔ a=b:=by
  rw[ByteArray.toList_eq,ByteArray.toList_eq]
  exact⟨str_ext,fun h=> by rw[h]⟩
theorem size_eq_length (a:ByteArray):a.size=a.data.toList.length:=by rw[Array.length_toList];rfl
theorem data_append (a b:ByteArray):(a++b).data.toList=a.data.toList++b.data.toList:=by
  rw[ByteArray.data_append,Array.toList_append]
theorem data_extract (a:ByteArray) (i j:Nat):(a.extract i j).data.toList=(a.data.toList.drop i).take (j - i):=by
  rw[ByteArray.data_extract,Array.toList_extract,List.extract_eq_take_drop]
theorem bt_get (s:ByteArray) (i:Nat) (h:i< s.data.toList.length):bt s i=(s.data.toList[i].toNat:Int):=by
  unfold bt
  have h':i< s.size:=by rw[size_eq_length];exact h
  simp[h'];rfl
end Go.Proofs.YtlaeihdldofkcaaGreatDoor.B

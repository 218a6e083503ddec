/- Which ids may be: the program's test. -/
import Derived.Test.YtlaeihdldofkcaaGreatDoorBase
import Derived.Test.YtlaeihdldofkcaaGreatDoorPMx1
namespace Go.Proofs.YtlaeihdldofkcaaGreatDoor.IA
open Go.RowKit Go.Proofs.YtlaeihdldofkcaaGreatDoorW.PrintWords Go.Proofs.YtlaeihdldofkcaaGreatDoor.B Go.Proofs.YtlaeihdldofkcaaGreatDoor.PN
set_option linter.unusedSimpArgs false
set_option linter.unusedVariables false
theorem rd_get (l:List S46) (i:Nat) (h:i< l.length):rd_T46 l (i:Int)=l[i]:=by
  unfold rd_T46
  rw[Int.toNat_natCast,List.getD_eq_getElem?_getD,List.getElem?_eq_getElem h]
  rfl
theorem rdi_get (l:List Int) (i:Nat) (h:i< l.length):rd l (i:Int)=l[i]:=by
  unfold rd
  rw[Int.toNat_natCast,List.getD_eq_getElem?_getD,List.getElem?_eq_getElem h]
  rfl
theorem w64 (i:Nat) (h:i≤1000000):wrap64 ((i:Int)+1)=((i+1:Nat):Int):=by rw[wrap64_of (by omega) (by omega)];omega
theorem w64m (i:Nat) (h0:1≤i) (h:i≤9223372036854775807):wrap64 ((i:Int) - 1)=((i - 1:Nat):Int):=by rw[wrap64_of (by omega) (by omega)];omega
def orgs (l:List S46):List Int:=l.map (·.f1)
/-- May hops follow behind the organisations t? -/
def rfB:List Int→List S46→Bool
  |_,[]=> true
  |t,x :: l=> !ident_Check.badStep x && (decide (0≤x.f1) && (decide (x.f1< 16) && (!decide (x.f1 ∈ t) && rfB (t++[x.f1]) l)))
theorem rf_path:∀ (l:List S46) (t:List Int),(ident_Check.pathOk t (l.map (·.f1)) && !l.any ident_Check.badStep)=rfB t l
  |[],t=> rfl
  |x :: l,t=> by
    unfold rfB
    rw[← rf_path l (t++[x.f1]),List.map_cons,List.any_cons,show ident_Check.pathOk t (x.f1 :: l.map (·.f1))=(decide (0≤x.f1) && (decide (x.f1< 16) && (!decide (x.f1 ∈ t) && ident_Check.pathOk (t++[x.f1]) (l.map (·.f1)))))from rfl]
    cases ident_Check.badStep x<;> cases decide (0≤x.f1)<;> cases decide (x.f1< 16)<;> cases decide (x.f1 ∈ t)<;> simp
/-- May an id be? -/
def good (a b:Int) (l:List S46):Bool:=decide (1≤b) && (decide (b≤999999) && (decide (l.length≤4) && (decide (0≤a) && (decide (a< 16) && rfB [a] l))))
theorem good_iff {a b:Int} {l:List S46}:good a b l=true ↔ 1≤b∧b≤999999∧l.length≤4∧0≤a∧a< 16∧rfB [a] l=true:=by
  simp[good]
def chk (a b:Int) (l:List S46):Int:=if good a b l=true then 0 else 30
theorem chk0 {a b:Int} {l:List S46}:chk a b l=0 ↔ good a b l=true:=by
  unfold chk;split<;> simp_all
theorem check_eq (a b:Int) (l:List S46):ident_Check.f a b l=some (chk a b l):=by
  unfold ident_Check.f chk
  by_cases h1:b< 1
  · rw[if_pos h1,if_neg (by rw[good_iff];omega)]
  by_cases h2:b> 999999
  · rw[if_neg h1,if_pos h2,if_neg (by rw[good_iff];omega)]
  by_cases h3:l.length> 4
  · rw[if_neg h1,if_neg h2,if_pos h3,if_neg (by rw[good_iff];omega)]
  rw[if_neg h1,if_neg h2,if_neg h3]
  rw[show ident_Check.pathOk [] (a :: l.map (·.f1))=(decide (0≤a) && (decide (a< 16) && (!decide (a ∈ ([]:List Int)) && ident_Check.pathOk ([]++[a]) (l.map (·.f1)))))from rfl]
  have hr:=rf_path l [a]
  by_cases h4:0≤a
  case neg=> rw[decide_eq_false h4,Bool.false_and,if_neg (by decide),if_neg (by rw[good_iff];omega)]
  by_cases h5:a< 16
  case neg=> rw[decide_eq_true h4,decide_eq_false h5,Bool.true_and,Bool.false_and,if_neg (by decide),if_neg (by rw[good_iff];omega)]
  rw[decide_eq_true h4,decide_eq_true h5,decide_eq_false (by simp),Bool.not_false,Bool.true_and,Bool.true_and,Bool.true_and,List.nil_append]
  have hg:good a b l=rfB [a] l:=by
    unfold good
    rw[decide_eq_true (by omega:1≤b),decide_eq_true (by omega:b≤999999),decide_eq_true (by omega:l.length≤4),decide_eq_true h4,decide_eq_true h5]
    simp
  rw[hg,← hr]
  cases ident_Check.pathOk [a] (l.map (·.f1))<;> cases l.any ident_Check.badStep<;> rfl
end Go.Proofs.YtlaeihdldofkcaaGreatDoor.IA

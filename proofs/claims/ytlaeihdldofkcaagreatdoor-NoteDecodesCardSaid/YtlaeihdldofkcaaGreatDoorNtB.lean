/- The order of ids, and when two are the same. -/
import Derived.Test.YtlaeihdldofkcaaGreatDoorNtA
import Derived.Test.YtlaeihdldofkcaaGreatDoorPMx5
namespace Go.Proofs.YtlaeihdldofkcaaGreatDoor.IB
open Go.RowKit Go.Proofs.YtlaeihdldofkcaaGreatDoorW.PrintWords Go.Proofs.YtlaeihdldofkcaaGreatDoor.B Go.Proofs.YtlaeihdldofkcaaGreatDoor.PN Go.Proofs.YtlaeihdldofkcaaGreatDoor.IA
set_option linter.unusedSimpArgs false
set_option linter.unusedVariables false
def num (x y:Int):Int:=if x< y then -1 else if x> y then 1 else 0
theorem num0 {x y:Int}:num x y=0 ↔ x=y:=by unfold num;split<;> (try split)<;> constructor<;> intro h<;> omega
theorem num_lt {x y:Int}:num x y< 0 ↔ x< y:=by unfold num;split<;> (try split)<;> constructor<;> intro h<;> omega
theorem num_gt {x y:Int}:num x y> 0 ↔ y< x:=by unfold num;split<;> (try split)<;> constructor<;> intro h<;> omega
theorem num_neg (x y:Int):num y x=- num x y:=by unfold num;split<;> split<;> (try split)<;> (try split)<;> omega
theorem num_rng (x y:Int):-1≤num x y∧num x y≤1:=by unfold num;split<;> (try split)<;> omega
theorem number_eq (x y:Int):ententeref03_number.f x y=some (num x y):=by
  unfold ententeref03_number.f num
  split<;> (try split)<;> rfl
def hopc (x y:S46):Int:=if num x.f0 y.f0=0 then num x.f1 y.f1 else num x.f0 y.f0
def cmpL:List S46→List S46→Int
  |[],[]=> 0
  |[],_ :: _=> -1
  |_ :: _,[]=> 1
  |x :: xs,y :: ys=> if hopc x y=0 then cmpL xs ys else hopc x y
theorem cmpL_nil (m:List S46):cmpL [] m=if 0< m.length then -1 else 0:=by cases m<;> simp[cmpL]
def cmpv (a b:Int) (l:List S46) (a' b':Int) (m:List S46):Int:=if num a a'=0 then(if num b b'=0 then cmpL l m else num b b')else num a a'
theorem rhops_loop (a b:Int) (l:List S46) (a' b':Int) (m:List S46) (hl:l.length≤10000) (hm:m.length≤10000):∀ (d i:Nat),l.length - i=d→i≤l.length→i≤m.length→Ev (fun k=> ententeref03_Cmp.l0 k (i:Int) a b l a' b' m) (cmpL (l.drop i) (m.drop i))
  |0,i,hd,hi,hj=> by
    rw[List.drop_of_length_le (show l.length≤i by omega),cmpL_nil,List.length_drop]
    refine Ev.step (fun k=> by rw[ententeref03_Cmp.l0]) ?_
    refine ev_neg (by omega) (Ev.step (fun k=> by rw[ententeref03_Cmp.j1]) ?_)
    refine ev_neg (by decide) (ev_bind0 (number_eq _ _) (Ev.some ?_))
    unfold num
    by_cases h:(l.length:Int)< (m.length:Int)
    · have e:(if 0< m.length - i then(-1:Int)else 0)=-1:=if_pos (by omega)
      rw[e,if_pos h]
    · have e:(if 0< m.length - i then(-1:Int)else 0)=0:=if_neg (by omega)
      rw[e,if_neg h,if_neg (by omega)]
  |d+1,i,hd,hi,hj=> by
    rw[List.drop_eq_getElem_cons (by omega:i< l.length)]
    refine Ev.step (fun k=> by rw[ententeref03_Cmp.l0]) ?_
    refine ev_pos (by omega) (Ev.step (fun k=> by rw[ententeref03_Cmp.j1]) ?_)
    by_cases h:m.length≤i
    · rw[List.drop_of_length_le h,decide_eq_false (by omega)]
      refine ev_neg (by decide) (ev_bind0 (number_eq _ _) (Ev.some ?_))
      unfold num
      rw[if_neg (by omega),if_pos (by omega)]
      rfl
    · rw[List.drop_eq_getElem_cons (by omega:i< m.length),decide_eq_true (by omega)]
      refine ev_pos rfl (ev_pos (by omega) (ev_pos (by omega) (ev_pos (by omega) ?_)))
      rw[rd_get l i (by omega),rd_get m i (by omega),w64 i (by omega)]
      have ih:=rhops_loop a b l a' b' m hl hm d (i+1) (by omega) (by omega) (by omega)
      generalize l[i]'(by omega)=x
      generalize m[i]'(by omega)=y
      unfold cmpL hopc
      by_cases h0:x.f0=y.f0
      · rw[if_pos (num0.2 h0)]
        refine ev_pos h0 ?_
        by_cases h1:x.f1=y.f1
        · rw[if_pos (num0.2 h1)];exact ev_pos h1 ih
        · rw[if_neg (fun h=> h1 (num0.1 h))]
          exact ev_neg h1 (ev_bind0 (number_eq _ _) (Ev.some rfl))
      · rw[if_neg (fun h=> h0 (num0.1 h)),if_neg (fun h=> h0 (num0.1 h))]
        exact ev_neg h0 (ev_bind0 (number_eq _ _) (Ev.some rfl))
theorem rcmp_ev (a b:Int) (l:List S46) (a' b':Int) (m:List S46) (hl:l.length≤10000) (hm:m.length≤10000):Ev (fun k=> ententeref03_Cmp.f k a b l a' b' m) (cmpv a b l a' b' m):=by
  unfold ententeref03_Cmp.f cmpv
  by_cases h0:a=a'
  · rw[if_pos (num0.2 h0)]
    refine ev_pos h0 ?_
    by_cases h1:b=b'
    · rw[if_pos (num0.2 h1)]
      exact ev_pos h1 (rhops_loop a b l a' b' m hl hm _ 0 rfl (Nat.zero_le _) (Nat.zero_le _))
    · rw[if_neg (fun h=> h1 (num0.1 h))]
      exact ev_neg h1 (ev_bind0 (number_eq _ _) (Ev.some rfl))
  · rw[if_neg (fun h=> h0 (num0.1 h))]
    exact ev_neg h0 (ev_bind0 (number_eq _ _) (Ev.some rfl))
theorem same_ev (a b:Int) (l:List S46) (a' b':Int) (m:List S46) (hl:l.length≤10000) (hm:m.length≤10000):Ev (fun k=> ententeref03_Same.f k a b l a' b' m) (cmpv a b l a' b' m==0):=by
  unfold ententeref03_Same.f
  exact Ev.bind (rcmp_ev a b l a' b' m hl hm) (Ev.some rfl)
theorem hopc0 {x y:S46}:hopc x y=0 ↔ x=y:=by
  obtain⟨x0,x1⟩:=x
  obtain⟨y0,y1⟩:=y
  unfold hopc
  simp only[S46.mk.injEq]
  split
  · rename_i h
    rw[num0]at h ⊢
    simp[h]
  · rename_i h
    rw[num0]at h
    simp[h,num0]
theorem cmpL0:∀ {l m:List S46},cmpL l m=0 ↔ l=m
  |[],[]=> by simp[cmpL]
  |[],_ :: _=> by simp[cmpL]
  |_ :: _,[]=> by simp[cmpL]
  |x :: xs,y :: ys=> by
    unfold cmpL
    by_cases h:hopc x y=0
    · rw[if_pos h,cmpL0,List.cons.injEq]
      simp[hopc0.1 h]
    · rw[if_neg h]
      constructor
      · intro h';exact absurd h' h
      · intro h'
        rw[List.cons.injEq]at h'
        exact absurd (hopc0.2 h'.1) h
theorem cmpv0 {a b a' b':Int} {l m:List S46}:cmpv a b l a' b' m=0 ↔ a=a'∧b=b'∧l=m:=by
  unfold cmpv
  by_cases h:num a a'=0
  · rw[if_pos h]
    rw[num0]at h
    by_cases h2:num b b'=0
    · rw[if_pos h2,cmpL0]
      rw[num0]at h2
      simp[h,h2]
    · rw[if_neg h2]
      rw[num0]at h2
      rw[num0]
      simp[h2]
  · rw[if_neg h]
    rw[num0]at h
    rw[num0]
    simp[h]
theorem same_true (a b:Int) (l:List S46) (hl:l.length≤10000):Ev (fun k=> ententeref03_Same.f k a b l a b l) true:=by
  have:=same_ev a b l a b l hl hl
  rw[cmpv0.2 ⟨rfl,rfl,rfl⟩]at this
  exact this
end Go.Proofs.YtlaeihdldofkcaaGreatDoor.IB

/- slices: neighbours that are the same, once. -/
import Derived.Test.YthhamejdmpjjlaaGreatDoorSpd
namespace Num
open Go Go.Proofs
def dd {α:Type} [DecidableEq α] (l:List α):List α:=l.foldl (fun o x=>if o.getLast? =some x then o else o++[x]) []
theorem zhq {α:Type} [DecidableEq α] (l:List α) (x:α):dd (l++[x])=if (dd l).getLast? =some x then dd l else dd l++[x]:=by unfold dd;rw [List.foldl_append];rfl
theorem znL {α:Type} [DecidableEq α]:∀ (l:List α),(dd l).getLast? =l.getLast? :=fun l=>by
 rcases List.eq_nil_or_concat l with rfl | ⟨m,x,rfl⟩
 ·rfl
 ·rw [List.concat_eq_append,zhq]
  split
  ·rename_i h;rw [h];simp
  ·simp
theorem znM {α:Type} [DecidableEq α] {l:List α} {k:Nat} {x y:α} (hy:l[k]? =some y) (h:l[k+1]? =some x):dd (l.take (k+2))=if y=x then dd (l.take (k+1)) else dd (l.take (k+1))++[x]:=by
 rw [List.take_add_one,h,show (some x).toList=[x] from rfl,zhq,znL,List.take_add_one,hy]
 simp
theorem JK {α:Type} [Inhabited α] {d:Array α} {i:Nat} (h:i<d.size):d.toList[i]? =some d[i]! :=by
 rw [getElem!_pos d i h,Array.getElem?_toList,Array.getElem?_eq_getElem h]
theorem zhr {α:Type} {p:α→Prop} {d:Array α} {i:Nat} {x:α} (h:∀ x∈d.toList,p x) (hx:p x):∀ y∈(d.setIfInBounds i x).toList,p y:=fun y hy=>by
 rw [Array.toList_setIfInBounds] at hy
 rcases List.mem_or_eq_of_mem_set hy with h1 | rfl
 ·exact h y h1
 ·exact hx
theorem zpp {α:Type} [Inhabited α] {d:Array α} {i j:Nat} {x:α} (h:i<d.size):(d.setIfInBounds i x)[j]! =if i=j then x else d[j]! :=by
 rw [getElem!_def,getElem!_def,Array.getElem?_setIfInBounds]
 by_cases e:i=j
 ·subst e;simp [h]
 ·simp [e]
structure DdI {α:Type} [DecidableEq α] [Inhabited α] (d E:Array α) (i k:Nat):Prop where
 sz:E.size=d.size
 kk:k=(dd (d.toList.take i)).length
 lt:k<i
 pre:E.toList.take k=dd (d.toList.take i)
 post:∀ j,i-1≤j→j<d.size→E[j]! =d[j]!
theorem JL {α:Type} [DecidableEq α] [Inhabited α] {d:Array α} {i:Nat} (h0:0<i) (hi:i<d.size):dd (d.toList.take (i+1))=if d[i-1]! =d[i]! then dd (d.toList.take i) else dd (d.toList.take i)++[d[i]!]:=by
 have h:=znM (JK (d:=d) (i:=i-1) (by omega)) (x:=d[i]!) (by rw [show i-1+1=i by omega];exact JK hi)
 rw [show i-1+2=i+1 by omega,show i-1+1=i by omega] at h
 exact h
theorem DdI.skip {α:Type} [DecidableEq α] [Inhabited α] {d E:Array α} {i k:Nat} (h:DdI d E i k) (hi:i<d.size) (he:E[i]! =E[i-1]!):DdI d E (i+1) k:=by
 have h0:=h.lt
 have e:dd (d.toList.take (i+1))=dd (d.toList.take i):=by
  rw [JL (by omega) hi,if_pos]
  rw [←h.post (i-1) (by omega) (by omega),←h.post i (by omega) hi];exact he.symm
 exact⟨h.sz,e▸h.kk,by omega,e▸h.pre,fun j hj hd=>h.post j (by omega) hd⟩
theorem DdI.put {α:Type} [DecidableEq α] [Inhabited α] {d E:Array α} {i k:Nat} (h:DdI d E i k) (hi:i<d.size) (he:E[i]! ≠E[i-1]!):DdI d (E.setIfInBounds k E[i]!) (i+1) (k+1):=by
 have h0:=h.lt
 have hs:=h.sz
 have e:dd (d.toList.take (i+1))=dd (d.toList.take i)++[E[i]!]:=by
  rw [JL (by omega) hi,if_neg]
  ·rw [h.post i (by omega) hi]
  ·rw [←h.post (i-1) (by omega) (by omega),←h.post i (by omega) hi];exact fun x=>he x.symm
 refine⟨by rw [Array.size_setIfInBounds];exact hs,by rw [e,List.length_append,←h.kk];rfl,by omega,?_,fun j hj hd=>?_⟩
 ·rw [Array.toList_setIfInBounds,e,←h.pre,List.take_add_one,List.take_set_of_le (Nat.le_refl k)]
  rw [List.getElem?_set_self (by rw [Array.length_toList];omega)];rfl
 ·rw [zpp (by omega),if_neg (by omega)];exact h.post j (by omega) hd
theorem zcg {α:Type} [DecidableEq α] {l:List α} (h:l.length<2):dd l=l:=by
 match l,h with
 | [],_=>rfl
 | [x],_=>rfl
end Num
namespace Go.Proofs
open Go Go.Sv Num
variable {G:Imm}
theorem WG:∀ (zs cs:List SV) (off:Nat),(xM cs off zs).take off=cs.take off
  | [],_,_=>rfl
  | z::zs,cs,off=>by
    show (xM (cs.set off z) (off+1) zs).take off=_
    have h:=congrArg (List.take off) (WG zs (cs.set off z) (off+1))
    rw [List.take_take,List.take_take,Nat.min_eq_left (by omega)] at h
    rw [h,List.take_set_of_le (Nat.le_refl off)]
theorem QF {α:Type} {f:α→List SV} {st:Nat} (hf:∀ x,(f x).length=st):∀ (l:List α) (k:Nat),(l.flatMap f).take (k*st)=(l.take k).flatMap f
  | [],k=>by simp
  | x::l,0=>by simp
  | x::l,k+1=>by
    rw [List.flatMap_cons,List.take_succ_cons,List.flatMap_cons,Nat.succ_mul,Nat.add_comm,←hf x,List.take_length_add_append,hf x,QF hf l k]
def zjx (P:Program) (G:Imm) {α:Type} [DecidableEq α] (f:α→List SV) (p:α→Prop) (fl:FuncId) (caps:List SV):Prop:=
 ∀x y,p x→p y→zp P G fl ([zl (f x),zl (f y)]++caps) (zm (decide (x=y)))
theorem zjy {d:Array (Rat)} {bb cc n:Nat} {fl:FuncId} {caps:List SV} {p:Rat→Prop} (hd:d.size=n) (hn:n≤1000000) (hp:∀ x∈d.toList,p x) (heq:zjx Tryz.prog G zR p fl caps) (hq:yu (some (bb,cc)) n):CallSpec Tryz.prog G 281 [eqS (rowV (some (bb,cc)) n),wp fl caps] [rowE (some (bb,cc)) 39 3 n (vZ zR d)] (fun v H'=>v=eqS (rowV (some (bb,cc)) (dd d.toList).length)∧H'=[rowE (some (bb,cc)) 39 3 (dd d.toList).length ((dd d.toList).flatMap zR)]):=by
 have hll:d.toList.length=n:=by rw [Array.length_toList];exact hd
 refine zs Tryz.func281 ?_;refine zr ?_;refine zz ?_;refine zJ ?_;refine zh ?_;refine zg ?_;refine zo (xK rfl rfl hq) ?_;refine zg ?_;refine zd (fun _ k10=>?_) fun _ k10=>?_
 ·have hdl:dd d.toList=d.toList:=zcg (by omega)
  refine zg ?_;refine zj ?_
  exact⟨_,[_],.one (.tmp rfl),List.Sublist.refl _,by rw [hdl,hll],by rw [hdl,hll];rfl⟩
 ·refine zE ?_;refine zh ?_;refine zg ?_
  refine yK (γ:=Nat) (fun k=>⟨_,[(5,intS .i64 (k:Nat)),(0,eqS (rowV (some (bb,cc)) n)),(1,wp fl caps)],[rowE (some (bb,cc)) 39 3 n (vZ zR d)],[],(0,false)⟩) (fun k=>1≤k∧k≤n∧dd (d.toList.take k)=d.toList.take k) (fun k=>n-k) 1 ⟨Nat.le_refl _,by omega,zcg (by rw [List.length_take];omega)⟩ (zL (zb rfl (zb rfl (zb rfl (trivial)))) rfl) ?_
  rintro k ⟨hk1,hkn,hkd⟩
  refine zh ?_;refine zg ?_;refine zo (xK rfl rfl hq) ?_;refine zg ?_;refine zd (fun _ k15=>?_) fun _ k15=>?_
  ·have hds:=JL (d:=d) (i:=k) (by omega) (by omega)
   have hts:d.toList.take (k+1)=d.toList.take k++[d[k]!]:=by rw [List.take_add_one,JK (by omega)];rfl
   refine zE ?_;refine zh ?_;refine zQ ?_;refine zS 11 (by kernel_rfl) ?_;refine zg ?_;refine zo ((yG (k) rfl rfl rfl rfl (by omega))) ?_;refine zo ((yO 0 (f:=zR) (fun _=>rfl) (d:=d) (i:=k) (by omega) rfl rfl rfl)) ?_;refine zg ?_;refine za ((k-1:Nat):Int) ?_;refine zo ((yG (k-1) rfl rfl rfl rfl (by omega))) ?_;refine zo ((yO 0 (f:=zR) (fun _=>rfl) (d:=d) (i:=k-1) (by omega) rfl rfl rfl)) ?_;refine zo ((yI rfl rfl rfl (heq _ _ (xO hp (i:=k) (by omega)) (xO hp (i:=k-1) (by omega))))) ?_;refine zg ?_;refine zd (fun _ he=>?_) fun _ he=>?_
   ·rw [if_pos he.symm,hkd] at hds
    refine zg ?_;refine zo ((XM rfl rfl hq rfl rfl (by omega))) ?_;refine zz ?_;refine zJ ?_;refine zh ?_;refine zg ?_
    refine Zh (fun (j k2:Nat) (E:Array (Rat))=>⟨_,[(7,intS .i64 (j:Nat)),(6,eqS (.slice (some ⟨bb,k*3,none⟩) (n-k) (cc-k))),(5,intS .i64 (k2:Nat)),(0,eqS (rowV (some (bb,cc)) n)),(1,wp fl caps)],[rowE (some (bb,cc)) 39 3 n (vZ zR E)],[],(0,false)⟩) (fun j k2 E=>1≤j∧j≤n-k∧(∀x∈E.toList,p x)∧DdI d E (k+j) k2) (fun j _ _=>n-j) 1 k d ⟨Nat.le_refl _,by omega,hp,rfl,by rw [hds,List.length_take];omega,by omega,hds.symm,fun _ _ _=>rfl⟩ (zL (zb rfl (zb rfl (zb rfl (zb rfl (zb rfl (trivial)))))) rfl) ?_
    rintro j k2 E ⟨hj1,hjn,hEp,hI⟩
    have hEs:=hI.sz
    have hkl:=hI.lt
    refine zh ?_;refine zg ?_;refine zo ((vk rfl rfl)) ?_;refine zg ?_;refine zd (fun _ k35=>?_) fun _ k35=>?_
    ·refine zE ?_;refine zh ?_;refine zQ ?_;refine zS 12 (by kernel_rfl) ?_;refine zg ?_;refine zo ((QE k (j) rfl rfl rfl rfl (by omega))) ?_;refine zo ((yO 0 (f:=zR) (fun _=>rfl) (d:=E) (i:=k+j) (by omega) rfl rfl rfl)) ?_;refine zg ?_;refine za ((j-1:Nat):Int) ?_;refine zo ((QE k (j-1) rfl rfl rfl rfl (by omega))) ?_;refine zo ((yO 0 (f:=zR) (fun _=>rfl) (d:=E) (i:=k+(j-1)) (by omega) rfl rfl rfl)) ?_;refine zo ((yI rfl rfl rfl (heq _ _ (xO hEp (i:=k+j) (by omega)) (xO hEp (i:=k+(j-1)) (by omega))))) ?_;refine zg ?_;refine wE (fun h49=>?_) fun h49=>?_
     ·have hne:E[k+j]! ≠E[k+j-1]! :=by rw [Bool.not_eq_true'] at h49;rw [show k+j-1=k+(j-1) by omega];exact of_decide_eq_false h49
      refine zg ?_;refine zo ((QE k (j) rfl rfl rfl rfl (by omega))) ?_;refine zo ((yO 0 (f:=zR) (fun _=>rfl) (d:=E) (i:=k+j) (by omega) rfl rfl rfl)) ?_;refine zo ((yG (k2) rfl rfl rfl rfl (by omega))) ?_;refine Run.storeE 0 (fun _=>rfl) (d:=E) (f:=zR) (i:=k2) (by omega) E[k+j]! rfl rfl rfl rfl rfl rfl rfl ?_;refine zg ?_;refine za ((k2+1:Nat):Int) ?_;refine zg ?_;refine za ((j+1:Nat):Int) ?_;refine zg ?_
      exact⟨j+1,k2+1,E.setIfInBounds k2 E[k+j]!,⟨by omega,by omega,zhr hEp (xO hEp (by omega)),hI.put (by omega) hne⟩,by omega,zL zk rfl⟩
     ·have hee:E[k+j]! =E[k+j-1]! :=by rw [Bool.not_eq_false'] at h49;rw [show k+j-1=k+(j-1) by omega];exact of_decide_eq_true h49
      refine zg ?_;refine za ((j+1:Nat):Int) ?_;refine zg ?_
      exact⟨j+1,k2,E,⟨by omega,by omega,hEp,hI.skip (by omega) hee⟩,by omega,zL zk rfl⟩
    ·have hjk:k+j=n:=by omega
     have hk2:=hI.kk
     have hpr:=hI.pre
     rw [hjk,←hll,List.take_length] at hk2 hpr
     have hcl:(vZ zR E).length=n*3:=by rw [zb9 (f:=zR) (st:=3) (fun _=>rfl),hEs,hd]
     refine zI ?_;refine zg ?_;refine zo ((XM rfl rfl hq rfl rfl (by omega))) ?_;refine Run.clear 0 rfl rfl rfl (by omega) (by rw [hcl,←Nat.add_mul];exact Nat.mul_le_mul_right _ (by omega)) rfl rfl rfl ?_;refine zJ ?_;refine zP (za8 [] [] (m':=k2) (cs':=(dd d.toList).flatMap zR) (by rw [wK];exact hcl) (by rw [WG];show _=(E.toList.flatMap zR).take (k2*3);rw [QF (f:=zR) (st:=3) (fun _=>rfl),hpr]) (by omega) hq) ?_;refine zg ?_;refine zo ((qL rfl rfl hq rfl rfl (by omega) (by omega))) ?_;refine zg ?_;refine zj ?_
     exact⟨_,[_],.one (.tmp rfl),List.Sublist.refl _,by rw [hk2],by rw [hk2]⟩
   ·rw [if_neg (fun x=>he x.symm),hkd,←hts] at hds
    refine zg ?_;refine za ((k+1:Nat):Int) ?_;refine zg ?_
    exact⟨k+1,⟨by omega,by omega,hds⟩,by omega,zL zk rfl⟩
  ·have hdl:dd d.toList=d.toList:=by
    rw [show k=n by omega,←hll,List.take_length] at hkd;exact hkd
   refine zI ?_;refine zg ?_;refine zj ?_
   exact⟨_,[_],.one (.tmp rfl),List.Sublist.refl _,by rw [hdl,hll],by rw [hdl,hll];rfl⟩
theorem zjz {d:Array (Rat×Rat)} {bb cc n:Nat} {fl:FuncId} {caps:List SV} {p:Rat×Rat→Prop} (hd:d.size=n) (hn:n≤1000000) (hp:∀ x∈d.toList,p x) (heq:zjx Tryz.prog G Zq p fl caps) (hq:yu (some (bb,cc)) n):CallSpec Tryz.prog G 349 [eqS (rowV (some (bb,cc)) n),wp fl caps] [rowE (some (bb,cc)) 350 6 n (vZ Zq d)] (fun v H'=>v=eqS (rowV (some (bb,cc)) (dd d.toList).length)∧H'=[rowE (some (bb,cc)) 350 6 (dd d.toList).length ((dd d.toList).flatMap Zq)]):=by
 have hll:d.toList.length=n:=by rw [Array.length_toList];exact hd
 refine zs Tryz.func349 ?_;refine zr ?_;refine zz ?_;refine zJ ?_;refine zh ?_;refine zg ?_;refine zo (xK rfl rfl hq) ?_;refine zg ?_;refine zd (fun _ k10=>?_) fun _ k10=>?_
 ·have hdl:dd d.toList=d.toList:=zcg (by omega)
  refine zg ?_;refine zj ?_
  exact⟨_,[_],.one (.tmp rfl),List.Sublist.refl _,by rw [hdl,hll],by rw [hdl,hll];rfl⟩
 ·refine zE ?_;refine zh ?_;refine zg ?_
  refine yK (γ:=Nat) (fun k=>⟨_,[(5,intS .i64 (k:Nat)),(0,eqS (rowV (some (bb,cc)) n)),(1,wp fl caps)],[rowE (some (bb,cc)) 350 6 n (vZ Zq d)],[],(0,false)⟩) (fun k=>1≤k∧k≤n∧dd (d.toList.take k)=d.toList.take k) (fun k=>n-k) 1 ⟨Nat.le_refl _,by omega,zcg (by rw [List.length_take];omega)⟩ (zL (zb rfl (zb rfl (zb rfl (trivial)))) rfl) ?_
  rintro k ⟨hk1,hkn,hkd⟩
  refine zh ?_;refine zg ?_;refine zo (xK rfl rfl hq) ?_;refine zg ?_;refine zd (fun _ k15=>?_) fun _ k15=>?_
  ·have hds:=JL (d:=d) (i:=k) (by omega) (by omega)
   have hts:d.toList.take (k+1)=d.toList.take k++[d[k]!]:=by rw [List.take_add_one,JK (by omega)];rfl
   refine zE ?_;refine zh ?_;refine zQ ?_;refine zS 11 (by kernel_rfl) ?_;refine zg ?_;refine zo ((yG (k) rfl rfl rfl rfl (by omega))) ?_;refine zo ((yO 0 (f:=Zq) (fun _=>rfl) (d:=d) (i:=k) (by omega) rfl rfl rfl)) ?_;refine zg ?_;refine za ((k-1:Nat):Int) ?_;refine zo ((yG (k-1) rfl rfl rfl rfl (by omega))) ?_;refine zo ((yO 0 (f:=Zq) (fun _=>rfl) (d:=d) (i:=k-1) (by omega) rfl rfl rfl)) ?_;refine zo ((yI rfl rfl rfl (heq _ _ (xO hp (i:=k) (by omega)) (xO hp (i:=k-1) (by omega))))) ?_;refine zg ?_;refine zd (fun _ he=>?_) fun _ he=>?_
   ·rw [if_pos he.symm,hkd] at hds
    refine zg ?_;refine zo ((XM rfl rfl hq rfl rfl (by omega))) ?_;refine zz ?_;refine zJ ?_;refine zh ?_;refine zg ?_
    refine Zh (fun (j k2:Nat) (E:Array (Rat×Rat))=>⟨_,[(7,intS .i64 (j:Nat)),(6,eqS (.slice (some ⟨bb,k*6,none⟩) (n-k) (cc-k))),(5,intS .i64 (k2:Nat)),(0,eqS (rowV (some (bb,cc)) n)),(1,wp fl caps)],[rowE (some (bb,cc)) 350 6 n (vZ Zq E)],[],(0,false)⟩) (fun j k2 E=>1≤j∧j≤n-k∧(∀x∈E.toList,p x)∧DdI d E (k+j) k2) (fun j _ _=>n-j) 1 k d ⟨Nat.le_refl _,by omega,hp,rfl,by rw [hds,List.length_take];omega,by omega,hds.symm,fun _ _ _=>rfl⟩ (zL (zb rfl (zb rfl (zb rfl (zb rfl (zb rfl (trivial)))))) rfl) ?_
    rintro j k2 E ⟨hj1,hjn,hEp,hI⟩
    have hEs:=hI.sz
    have hkl:=hI.lt
    refine zh ?_;refine zg ?_;refine zo ((vk rfl rfl)) ?_;refine zg ?_;refine zd (fun _ k35=>?_) fun _ k35=>?_
    ·refine zE ?_;refine zh ?_;refine zQ ?_;refine zS 12 (by kernel_rfl) ?_;refine zg ?_;refine zo ((QE k (j) rfl rfl rfl rfl (by omega))) ?_;refine zo ((yO 0 (f:=Zq) (fun _=>rfl) (d:=E) (i:=k+j) (by omega) rfl rfl rfl)) ?_;refine zg ?_;refine za ((j-1:Nat):Int) ?_;refine zo ((QE k (j-1) rfl rfl rfl rfl (by omega))) ?_;refine zo ((yO 0 (f:=Zq) (fun _=>rfl) (d:=E) (i:=k+(j-1)) (by omega) rfl rfl rfl)) ?_;refine zo ((yI rfl rfl rfl (heq _ _ (xO hEp (i:=k+j) (by omega)) (xO hEp (i:=k+(j-1)) (by omega))))) ?_;refine zg ?_;refine wE (fun h49=>?_) fun h49=>?_
     ·have hne:E[k+j]! ≠E[k+j-1]! :=by rw [Bool.not_eq_true'] at h49;rw [show k+j-1=k+(j-1) by omega];exact of_decide_eq_false h49
      refine zg ?_;refine zo ((QE k (j) rfl rfl rfl rfl (by omega))) ?_;refine zo ((yO 0 (f:=Zq) (fun _=>rfl) (d:=E) (i:=k+j) (by omega) rfl rfl rfl)) ?_;refine zo ((yG (k2) rfl rfl rfl rfl (by omega))) ?_;refine Run.storeE 0 (fun _=>rfl) (d:=E) (f:=Zq) (i:=k2) (by omega) E[k+j]! rfl rfl rfl rfl rfl rfl rfl ?_;refine zg ?_;refine za ((k2+1:Nat):Int) ?_;refine zg ?_;refine za ((j+1:Nat):Int) ?_;refine zg ?_
      exact⟨j+1,k2+1,E.setIfInBounds k2 E[k+j]!,⟨by omega,by omega,zhr hEp (xO hEp (by omega)),hI.put (by omega) hne⟩,by omega,zL zk rfl⟩
     ·have hee:E[k+j]! =E[k+j-1]! :=by rw [Bool.not_eq_false'] at h49;rw [show k+j-1=k+(j-1) by omega];exact of_decide_eq_true h49
      refine zg ?_;refine za ((j+1:Nat):Int) ?_;refine zg ?_
      exact⟨j+1,k2,E,⟨by omega,by omega,hEp,hI.skip (by omega) hee⟩,by omega,zL zk rfl⟩
    ·have hjk:k+j=n:=by omega
     have hk2:=hI.kk
     have hpr:=hI.pre
     rw [hjk,←hll,List.take_length] at hk2 hpr
     have hcl:(vZ Zq E).length=n*6:=by rw [zb9 (f:=Zq) (st:=6) (fun _=>rfl),hEs,hd]
     refine zI ?_;refine zg ?_;refine zo ((XM rfl rfl hq rfl rfl (by omega))) ?_;refine Run.clear 0 rfl rfl rfl (by omega) (by rw [hcl,←Nat.add_mul];exact Nat.mul_le_mul_right _ (by omega)) rfl rfl rfl ?_;refine zJ ?_;refine zP (za8 [] [] (m':=k2) (cs':=(dd d.toList).flatMap Zq) (by rw [wK];exact hcl) (by rw [WG];show _=(E.toList.flatMap Zq).take (k2*6);rw [QF (f:=Zq) (st:=6) (fun _=>rfl),hpr]) (by omega) hq) ?_;refine zg ?_;refine zo ((qL rfl rfl hq rfl rfl (by omega) (by omega))) ?_;refine zg ?_;refine zj ?_
     exact⟨_,[_],.one (.tmp rfl),List.Sublist.refl _,by rw [hk2],by rw [hk2]⟩
   ·rw [if_neg (fun x=>he x.symm),hkd,←hts] at hds
    refine zg ?_;refine za ((k+1:Nat):Int) ?_;refine zg ?_
    exact⟨k+1,⟨by omega,by omega,hds⟩,by omega,zL zk rfl⟩
  ·have hdl:dd d.toList=d.toList:=by
    rw [show k=n by omega,←hll,List.take_length] at hkd;exact hkd
   refine zI ?_;refine zg ?_;refine zj ?_
   exact⟨_,[_],.one (.tmp rfl),List.Sublist.refl _,by rw [hdl,hll],by rw [hdl,hll];rfl⟩
end Go.Proofs
namespace Go.Proofs
open Go Go.Sv Num
variable {G:Imm}
abbrev xC:SV:=eqS (.slice none 0 0)
theorem znN {P:Program} {H:HL} {o:Oper} {g:List (Nat×SV)} {t e st:Nat} [IsSl P t e st] {x:Operand} {ad:Option Addr} {n cap:Nat} (hop:o.op= .call {callee:=.builtin .cap,args:= #[x],argTypes:= #[t]}) (hx:xd g x=some (eqS (.slice ad n cap))):OpOK P G H o g (intS .i64 cap):=
 yC (by simp [hop]) fun I W a _ _ hr=>by
  have hv:a.eval x=_:=hr.get (by simp [hop,Op.operands,Call.operands]) hx
  refine⟨.int .i64 cap,?_,rfl⟩
  simp [execOp,hop,resolve,invoke,builtin,Builtin.cap_,run_underlying (IsSl.u (P:=P) (t:=t) (e:=e) (st:=st)),hv,goInt]
theorem zri [Tab G] {u v w:V2} (k:Nat) (hw:VQ u v=w) (h:Bp u k) (h':Bp v k) (hs:400*k+21000≤cap:=by decide):zp Tryz.prog G 275 [zl (yy u),zl (yy v)] (zl (yy w)):=by
 subst hw
 have:=h.x;have:=h.y;have:=h'.x;have:=h'.y
 exact YR (by omega)
theorem zrj [Tab G] {u v w:V2} (k:Nat) (hw:Qt u v=w) (h:Bp u k) (h':Bp v k) (hs:400*k+21000≤cap:=by decide):zp Tryz.prog G 41 [zl (yy u),zl (yy v)] (zl (yy w)):=by
 subst hw
 have:=h.x;have:=h.y;have:=h'.x;have:=h'.y
 exact Qo (by omega)
theorem bq0:Bq 0 1:=⟨by decide,by decide⟩
theorem bq1:Bq 1 1:=⟨by decide,by decide⟩
theorem bqm:Bq (-1) 1:=⟨by decide,by decide⟩
abbrev bxC (b:V2×V2):List SV:=yy b.1++yy b.2
theorem zqk:zp Tryz.prog G 157 [zU 1 XU ([]:List (List RP))] xC:=by
 refine zs Tryz.func157 ?_;refine zr ?_;refine zz ?_;refine zJ ?_;refine zh ?_;refine zg ?_;refine wR ?_;refine zr ?_;refine zz ?_;refine zJ ?_;refine zh ?_;refine zd (fun h8 k8=>?_) fun _ k8=>?_
 ·exact (by simp at h8)
 ·refine zI ?_;refine zg ?_
  exact zj zt
theorem zql {xs:List V2}:zp Tryz.prog G 158 [zU 6 yy xs,xC] xC:=by
 refine zs Tryz.func158 ?_;refine zr ?_;refine zz ?_;refine zJ ?_;refine zh ?_;refine zg ?_;refine zo (vk rfl rfl) ?_;refine zg ?_;refine wR ?_;refine zr ?_;refine zz ?_;refine zJ ?_;refine zh ?_;refine zd (fun h10 k10=>?_) fun _ k10=>?_
 ·exact (by simp at h10)
 ·refine zI ?_;refine zg ?_
  exact zj zt
theorem zqm:zp Tryz.prog G 334 [xC,intS .i64 0] xC:=by
 refine zs Tryz.func334 ?_;refine zr ?_;refine zz ?_;refine zJ ?_;refine zh ?_;refine zg ?_;refine zd (fun h6 k6=>?_) fun _ k6=>?_
 ·exact (by simp at h6)
 ·refine zE ?_;refine zh ?_;refine zg ?_;refine zo (znN rfl rfl) ?_;refine zz ?_;refine zo (vk rfl rfl) ?_;(iterate 2 refine zo (yA (z:=0) rfl rfl rfl (congrArg some (by omega)) (wrap_i64 (by omega) (by omega))) ?_);refine zg ?_;refine zd (fun h16 k16=>?_) fun _ k16=>?_
  ·exact (by simp at h16)
  ·refine zg ?_
   exact zj zt
theorem zhs:zp Tryz.prog G 273 [xC] (zU 6 pc ([]:List RP)):=by
 refine zs Tryz.func273 ?_;refine zr ?_;refine zz ?_;refine zx ?_;refine zz ?_;refine zJ ?_;refine zh ?_;refine zg ?_;refine zo (vk rfl rfl) ?_;refine zg ?_;refine wR ?_;refine zr ?_;refine zz ?_;refine zJ ?_;refine zh ?_;refine zd (fun h12 k12=>?_) fun _ k12=>?_
 ·exact (by simp at h12)
 ·refine zI ?_;refine zg ?_;refine zf zqm ?_;refine zz ?_;refine zJ ?_;refine zh ?_;refine zg ?_;refine zo (vk rfl rfl) ?_;refine zg ?_;refine wR ?_;refine zr ?_;refine zz ?_;refine zJ ?_;refine zh ?_;refine zd (fun h28 k28=>?_) fun _ k28=>?_
  ·exact (by simp at h28)
  ·refine zI ?_;refine zr ?_;refine zz ?_;refine zo ((yS rfl rfl).sub (show ∀I v,xC.den I v→(zU 6 pc ([]:List RP)).den I v from fun I v h=>UC h)) ?_;refine zJ ?_
   exact zj zt
theorem zrk [Tab G]:zp Tryz.prog G 272 [zU 6 pc ([]:List RP)] (xn [zl (bxC ((0,0),(0,0))),zm false]):=by
 refine zs Tryz.func272 ?_;refine zr ?_;refine xg fun b2=>?_;refine zg ?_;refine zo (ze rfl rfl ((vE (xs:=([]:List RP)) (k:=1) (by omega) (by simp) (by decide) (by decide)))) ?_;refine zz ?_;refine zJ ?_;refine zh ?_;refine zg ?_;refine zd (fun _ k10=>?_) fun h10 k10=>?_
 ·refine zr ?_;(iterate 2 refine zo (ze rfl rfl (Ut (p:=0) (q:=0) (by decide) (by decide) (by decide) (by decide))) ?_);refine zg ?_
  exact zj zt
 ·exact (by simp at h10)
theorem zpq [Tab G]:zp Tryz.prog G 213 [xC] (zl (bxC ((-1,-1),(1,1)))):=by
 refine zs Tryz.func213 ?_;refine zr ?_;refine xg fun b2=>?_;refine zg ?_;refine zf zhs ?_;refine zf zrk ?_;refine zg ?_;refine xg fun b3=>?_;refine zg ?_;refine zo (ze rfl rfl (Ut (p:=1) (q:=1) (by decide) (by decide) (by decide) (by decide))) ?_;refine xg fun b5=>?_;refine zg ?_;refine wH 10 [9] _ (by kernel_rfl) (.cons_cons _ (.cons_cons _ (.cons _ .slnil))) ?_;refine RunE.one (zN rfl rfl rfl) rfl rfl rfl (by kernel_rfl) ?_;refine RunE.one (zC 1 rfl rfl rfl rfl rfl) rfl rfl rfl (by kernel_rfl) ?_;refine RunE.one (zC 0 rfl rfl rfl rfl rfl) rfl rfl rfl (by kernel_rfl) ?_;refine RunE.one (ze rfl rfl (zri (u:=(0,0)) (v:=(1,1)) (w:=(-1,-1)) 1 (by decide +kernel) ⟨bq0,bq0⟩ ⟨bq1,bq1⟩)) rfl rfl rfl (by kernel_rfl) ?_;refine RunE.one (zN rfl rfl rfl) rfl rfl rfl (by kernel_rfl) ?_;refine RunE.one (zC 1 rfl rfl rfl rfl rfl) rfl rfl rfl (by kernel_rfl) ?_;refine RunE.one (zC 0 rfl rfl rfl rfl rfl) rfl rfl rfl (by kernel_rfl) ?_;refine RunE.one (ze rfl rfl (zrj (u:=(0,0)) (v:=(1,1)) (w:=(1,1)) 1 (by decide +kernel) ⟨bq0,bq0⟩ ⟨bq1,bq1⟩)) rfl rfl rfl (by kernel_rfl) ?_;refine RunE.one (yW rfl rfl rfl) rfl rfl rfl (by kernel_rfl) ?_
 refine RunE.nil ⟨_,rfl,?_⟩
 refine .loc1n 2 (xI rfl rfl rfl rfl (by first | decide | (simp;done) | (simp;omega))) rfl rfl rfl ?_
 rintro s1 H1 ⟨rfl,rfl⟩
 refine⟨(.cons_cons _ (.cons_cons _ (.cons _ .slnil))),?_⟩
 refine RunE.nil ?_;refine zJ ?_
 exact zj zt
theorem znO:IterSpec Tryz.prog G 416 [zT [xC]] []:=by
 refine xH Tryz.func416 rfl rfl rfl rfl fun l E hy=>?_;refine zg ?_;refine zo (vk rfl rfl) ?_;refine zg ?_;refine wR ?_;refine zr ?_;refine zz ?_;refine zJ ?_;refine zh ?_;refine zd (fun h11 k11=>?_) fun _ k11=>?_
 ·exact (by simp at h11)
 ·refine zI ?_
  exact⟨.inr rfl,.inl rfl⟩
theorem znP:zp Tryz.prog G 343 [xC] (wp 416 [zT [xC]]):=by
 refine zs Tryz.func343 ?_;refine zg ?_
 exact zj zt
theorem znQ:IterSpec Tryz.prog G 335 [zT [xC]] []:=by
 refine xH Tryz.func335 rfl rfl rfl rfl fun l E hy=>?_;refine zg ?_;refine zo (vk rfl rfl) ?_;refine zg ?_;refine wR ?_;refine zr ?_;refine zz ?_;refine zJ ?_;refine zh ?_;refine zd (fun h10 k10=>?_) fun _ k10=>?_
 ·exact (by simp at h10)
 ·refine zI ?_
  exact⟨.inr rfl,.inl rfl⟩
theorem znR:zp Tryz.prog G 277 [xC] (wp 335 [zT [xC]]):=by
 refine zs Tryz.func277 ?_;refine zg ?_
 exact zj zt
end Go.Proofs
namespace Go.Sv
open Go Go.RowKit
section
variable {P:Program} {G:Imm} {E:Env} {r:Option Nat} {S:St} {H:HL} {o:Oper} {g:List (Nat×SV)}
def zch (l:List Oper) (N:Nat):Bool:=ua l&&(vm l&&(ub l&&Zr l (N+3)))
structure EffR (P:Program) (G:Imm) (E:Env) (r:Option Nat) (gd:Nat→Option Nat) (n:Nat) (h:HL) (d:List Nat) (ix:Nat×Bool) (oB oA oC:Oper) (rest:List Oper) (g:List (Nat×SV)) (K:St→Prop):Prop where
  e:∃ db da t zs KB,da≠db∧IsZero P t zs∧HasSize P t 1∧zs.length=1∧OpL P G oB g [] KB∧oB.dst=some db∧oB.guard=none∧Nat.blt db n=true ∧
    oA.op= .alloc t∧oA.dst=some da∧oA.guard=none∧Nat.blt da n=true∧oC.op= .store t (.tmp da) (.tmp db)∧oC.dst=none∧oC.guard=none ∧
    ∀s H',KB s H'→FlatC s [s]∧∀ b,Run P G E r gd false rest ⟨n,(da,eqS (.pointer (some ⟨b,0,none⟩)))::(db,s)::g,⟨some b,t,xM (zs.map eqS) 0 [s],0⟩::(H'++h),d,ix⟩ K
theorem zlS (N:Nat) {l:List Oper} {oB oA oC:Oper} {Q:Exit→St→Prop} {n:Nat} {g:List (Nat×SV)} {h:HL} {d:List Nat} {i:Nat×Bool} (hok:zch l N=true) (hoB:l[N]? =some oB) (hoA:l[N+1]? =some oA) (hoC:l[N+2]? =some oC)
  (hr:RunE P G (xA l) n h h (fun _=>false) 0 (l.take N) g (fun g'=>EffR P G E r (xA l) n h d i oB oA oC (l.drop (N+3)) g' (fun S'=>Q .normal S'))):TA P G E r l ⟨n,g,h,d,i⟩ Q:=by
 simp only [zch,Bool.and_eq_true] at hok
 obtain⟨hed,hnd,hrd,htail⟩:=hok
 obtain⟨sv,⟨db,da,t,zs,KB,hdab,hz,hsz,hzl,hBop,hBd,hBg,hdbn,hAop,hAd,hAg,hdn,hCop,hCd,hCg,hK⟩,hst⟩:=ZY hr
 have hND:=yt hoC
 have hlen:(l.take N).length=N:=by simp;omega
 have hlen4:(l.take (N+3)).length=N+3:=by simp;omega
 rw [hlen] at hBop
 simp only [hlen] at hK
 have e1:∀ (sv':Nat→SV) k,(∀j,j<N→sv' j=sv j)→k≤N→xT (l.take (N+3)) sv' g k=xT (l.take N) sv g k:=fun sv' k hsv hk=>by
  rw [vp hk,vp (by omega)];exact uc fun j hj=>hsv j (by omega)
 have e2:∀ (sv':Nat→SV),(∀j,j<N→sv' j=sv j)→xT (l.take (N+3)) sv' g (N+1)=(db,sv' N)::xT (l.take N) sv g N:=fun sv' hsv=>by
  rw [vQ (o:=oB) (by rw [xJ (by omega)];exact hoB),hBd,e1 sv' N hsv (Nat.le_refl _)];rfl
 have e3:∀ (sv':Nat→SV),(∀j,j<N→sv' j=sv j)→xT (l.take (N+3)) sv' g (N+2)=(da,sv' (N+1))::(db,sv' N)::xT (l.take N) sv g N:=fun sv' hsv=>by
  rw [vQ (o:=oA) (by rw [xJ (by omega)];exact hoA),hAd,e2 sv' hsv];rfl
 have e5:∀ (sv':Nat→SV),(∀j,j<N→sv' j=sv j)→xT (l.take (N+3)) sv' g (l.take (N+3)).length=(da,sv' (N+1))::(db,sv' N)::xT (l.take N) sv g N:=fun sv' hsv=>by
  rw [hlen4,Ub (o:=oC) (by rw [xJ (by omega)];exact hoC) hCd,e3 sv' hsv]
 have hCA:Reach l (N+2) (N+1):=by
  rcases vA hrd hoC (t:=da) (uH (by rw [hCop];simp [Op.operands])) hoA hAd with h1 | ⟨_,h1⟩ | ⟨h1,_⟩
  ·omega
  ·exact h1
  ·omega
 have hCB:Reach l (N+2) N:=by
  rcases vA hrd hoC (t:=db) (uH (by rw [hCop];simp [Op.operands])) hoB hBd with h1 | ⟨_,h1⟩ | ⟨h1,_⟩
  ·omega
  ·exact h1
  ·omega
 refine Ju (S:=⟨n,g,h,d,i⟩) (N:=N+3) (Q:=Q)
  (R:=fun L sv' hc=>(∀j,j<N→sv' j=sv j)∧∃ pA pB,hc=pA++pB++h∧phase L (N+1) (N+2) (sv' (N+1)) t zs [sv' N] pA∧((¬L N∧¬ L (N+2)∧pB=[])∨(L N∧KB (sv' N) pB)))
  hed hnd hrd htail (by omega) sv (fun k o hk hkN=>?_) (fun L sv' hc hR hall=>?_) fun L hL=>⟨fun _ _=>rfl,[],[],rfl,.inl ⟨hL _,hL _,rfl⟩,.inl ⟨hL _,hL _,rfl⟩⟩
 ·by_cases hkB:k=N
  ·subst hkB
   rw [hoB] at hk;cases hk
   refine⟨fun u hu=>by rw [hBd] at hu;cases hu;exact Nat.le_of_ble_eq_true hdbn,fun L sv' hc hR hn hpre hcl=>.inr ⟨by simp [zH,hBg],?_⟩⟩
   obtain⟨hsv,pA,pB,rfl,phA,phB⟩:=hR
   rcases phB with ⟨_,hnc,rfl⟩ | ⟨hL,_⟩
   ·refine⟨pA,[],h,_,by simp,by rw [e1 sv' k hsv (Nat.le_refl _)];exact hBop,fun s1 H' hq=>⟨fun j j1=>by rw [xw (by omega)];exact hsv j j1,pA,H',rfl,?_,.inr ⟨.inl rfl,by rw [uf];exact hq⟩⟩⟩
    rcases phA with ⟨h1,h2,h3⟩ | ⟨h1,h2,h3⟩ | ⟨h1,h2,h3⟩
    ·exact .inl ⟨fun h=>h.elim (fun e=>by omega) h1,fun h=>h.elim (fun e=>by omega) h2,h3⟩
    ·exact .inr (.inl ⟨.inr h1,fun h=>h.elim (fun e=>by omega) h2,by rw [xw (by omega)];exact h3⟩)
    ·exact absurd h2 hnc
   ·exact absurd hL hn
  ·by_cases hkA:k=N+1
   ·subst hkA
    rw [hoA] at hk;cases hk
    refine⟨fun u hu=>by rw [hAd] at hu;cases hu;exact Nat.le_of_ble_eq_true hdn,fun L sv' hc hR hn hpre hcl=>.inr ⟨by simp [zH,hAg],?_⟩⟩
    obtain⟨hsv,pA,pB,rfl,phA,phB⟩:=hR
    obtain⟨rfl,hnc⟩:=phA.before hn
    refine⟨[],[],pB++h,_,by simp,WM hAop,fun s1 H' ⟨b,h1,h2⟩=>⟨fun j j1=>by rw [xw (by omega)];exact hsv j j1,H',pB,by simp,.inr (.inl ⟨.inl rfl,fun h3=>?_,b,by rw [uf,h1],by rw [h2]⟩),?_⟩⟩
    ·rcases h3 with h3 | h3
     ·omega
     ·exact hnc h3
    ·rw [xw (by omega)]
     exact phB.imp (fun⟨h1,h2,h3⟩=>⟨fun h=>h.elim (fun e=>by omega) h1,fun h=>h.elim (fun e=>by omega) h2,h3⟩) fun⟨h1,h2⟩=>⟨.inr h1,h2⟩
   ·by_cases hkC:k=N+2
    ·subst hkC
     rw [hoC] at hk;cases hk
     refine⟨fun u hu=>(by rw [hCd] at hu;cases hu),fun L sv' hc hR hn hpre hcl=>.inr ⟨by simp [zH,hCg],?_⟩⟩
     obtain⟨hsv,pA,pB,rfl,phA,phB⟩:=hR
     have hLA:L (N+1):=hCA.listed (L:=L) hcl fun o' ho'=>by rw [hoC] at ho';cases ho';exact hpre
     have hLB:L N:=hCB.listed (L:=L) hcl fun o' ho'=>by rw [hoC] at ho';cases ho';exact hpre
     obtain⟨b,hb1,rfl⟩:=phA.made hLA hn
     have hkb:KB (sv' N) pB:=phB.elim (fun h=>absurd hLB h.1) (·.2)
     rw [e3 sv' hsv,hb1]
     have hfl:=(hK _ _ hkb).1
     have hyy:xd ((da,eqS (.pointer (some ⟨b,0,none⟩)))::(db,sv' N)::xT (l.take N) sv g N) (.tmp db)=some (sv' N):=Yb (fun h=>hdab (by cases h;rfl)) (by simp [xd,look])
     have hxx:xd ((da,eqS (.pointer (some ⟨b,0,none⟩)))::(db,sv' N)::xT (l.take N) sv g N) (.tmp da)=some (eqS (.pointer (some ⟨b,0,none⟩))):=by simp [xd,look]
     have hL:=xI (P:=P) (G:=G) (e:=t) (k:=0) (cs:=zs.map eqS) (hsz:=hsz) (hf:=hfl) hCop hxx hyy rfl (by rw [Nat.zero_add,List.length_map,hzl];exact Nat.le_refl _)
     refine⟨[],[⟨some b,t,zs.map eqS,0⟩],pB++h,_,by simp,hL,fun s1 H' ⟨h1,h2⟩=>⟨fun j j1=>by rw [xw (by omega)];exact hsv j j1,H',pB,by simp,.inr (.inr ⟨.inr hLA,.inl rfl,b,by rw [xw (by omega)];exact hb1,by rw [h2,xw (by omega)]⟩),.inr ⟨.inr hLB,by rw [xw (by omega)];exact hkb⟩⟩⟩
    ·have hkN2:k<N:=by omega
     obtain⟨g1,g2⟩:=hst k o (by rw [xJ hkN2];exact hk)
     refine⟨g1,fun L sv' hc hR hn hpre hcl=>.inl ⟨?_,hR.1,?_⟩⟩
     ·rw [e1 sv' k hR.1 (by omega),hR.1 k hkN2]
      rcases g2 with ⟨⟨h1,h2⟩ | h1,h3⟩ | h1
      ·cases h2
      ·refine .inl ⟨?_,h3⟩
       obtain⟨_,pA,pB,rfl,_,_⟩:=hR
       exact HoldsH.sub_ok (List.sublist_append_right _ _) h1
      ·exact .inr h1
     ·obtain⟨_,pA,pB,hh,phA,phB⟩:=hR
      exact⟨pA,pB,hh,phA.other (by omega) (by omega) rfl,phB.imp (fun⟨h1,h2,h3⟩=>⟨fun h=>h.elim (fun e=>by omega) h1,fun h=>h.elim (fun e=>by omega) h2,h3⟩) fun⟨h1,h2⟩=>⟨.inr h1,h2⟩⟩
 ·obtain⟨hsv,pA,pB,rfl,phA,phB⟩:=hR
  obtain⟨b,hb1,rfl⟩:=phA.full (hall (N+1) (by omega)) (hall (N+2) (by omega))
  have hkb:KB (sv' N) pB:=phB.elim (fun h=>absurd (hall N (by omega)) h.1) (·.2)
  have:=(hK _ _ hkb).2 b
  simp only [e5 sv' hsv,hb1]
  simpa using this
theorem zlT [Mixed P] (N:Nat) {id:Nat} {l:List Oper} {oB oA oC:Oper} {y:Code} {Q:Exit→St→Prop} {n:Nat} {g:List (Nat×SV)} {h:HL} {d:List Nat} {i:Nat×Bool} (hok:zch l N=true) (hoB:l[N]? =some oB) (hoA:l[N+1]? =some oA) (hoC:l[N+2]? =some oC)
  (hr:RunE P G (xA l) n h h (fun _=>false) 0 (l.take N) g (fun g'=>EffR P G E r (xA l) n h d i oB oA oC (l.drop (N+3)) g' (fun S'=>T P G E r y S' Q))):T P G E r (.seq (.region id l.toArray true) y) ⟨n,g,h,d,i⟩ Q:=
 zh (zlS N hok hoB hoA hoC hr).T
theorem EffR.mk1 {gd:Nat→Option Nat} {n:Nat} {h:HL} {d:List Nat} {ix:Nat×Bool} {oB oA oC:Oper} {rest:List Oper} {K:St→Prop} {t tr e st m da db:Nat} {zs zt:List Value} [IsSl P tr e st] [IsZero P e zs] [IsZero P t zt] [HasSize P t 1] {parts:Array (Nat×Operand)} {ps:List (Nat×SV)} {qs:List (Nat×List SV)}
  (h1:oB.op= .buildSlice tr m parts) (h2:YD g parts.toList=some ps) [FlatL ps qs] (h3:m*st≤16777216) (h4:qs.length=m) (h5:m=0∨zs≠[]) (h6:Wc st (qs.map (·.2))=true)
  (h7:Vr ((List.range m).map fun i=>(i*st,st)) ((yB zs (m*st)).map eqS) qs=some (qs.map (·.2)).flatten)
  (h8:oB.dst=some db) (h9:oB.guard=none) (h10:Nat.blt db n=true) (h11:oA.op= .alloc t) (h12:oA.dst=some da) (h13:oA.guard=none) (h14:Nat.blt da n=true) (h15:oC.op= .store t (.tmp da) (.tmp db)) (h16:oC.dst=none) (h17:oC.guard=none) (h18:Nat.beq da db=false) (h19:zt.length=1)
  (hr:∀ b1 b2,yu (some (b1,m)) m→Run P G E r gd false rest ⟨n,(da,eqS (.pointer (some ⟨b2,0,none⟩)))::(db,eqS (rowV (some (b1,m)) m))::g,⟨some b2,t,xM (zt.map eqS) 0 [eqS (rowV (some (b1,m)) m)],0⟩::rowE (some (b1,m)) e st m (qs.map (·.2)).flatten::h,d,ix⟩ K):EffR P G E r gd n h d ix oB oA oC rest g K:=
 ⟨⟨db,da,t,zt,_,(fun e=>by subst e;rw [Nat.beq_refl] at h18;cases h18),inferInstance,inferInstance,h19,JY h1 h2 h3 h4 h5 h6 h7,h8,h9,h10,h11,h12,h13,h14,h15,h16,h17,fun s H' ⟨b1,e0,e1,e2⟩=>by subst e1;subst e2;exact⟨inferInstance,fun b2=>hr b1 b2 e0⟩⟩⟩
end
end Go.Sv
namespace Go.Sv
open Go Go.RowKit
section
variable {P:Program} {G:Imm} {E:Env} {r:Option Nat} {Q:Exit→St→Prop}
theorem zci {n:Nat} {g:List (Nat×SV)} {h:HL} {d:List Nat} {i:Nat×Bool} {x:Operand} {t:Nat} {ps:Array Tmp} {assign body:Code} {f:FuncId} {caps:List SV} (hx:x= .tmp t) (hg:look t g=some (wp f caps)) (hit:IterSpec P G f caps []) (hnd:ps.toList.Nodup) (hpn:(ps.toList.all fun p=>Nat.blt p n)=true)
  (hq:∀ D,Q .normal ⟨n,g,h,D++d,i⟩):T P G E r (.rangeFunc x ps assign body) ⟨n,g,h,d,i⟩ Q:=
 ul hx hg hit (fun ss h=>by cases h) hnd hpn (fun _ h' i'=>h'=h∧i'=i) (fun _ _ _=>False) ⟨rfl,rfl⟩ (fun l k ss h i hk=>by simp at hk) (fun h i D ⟨e1,e2⟩=>by subst e1;subst e2;exact hq D) (fun _ _ _ _ _ _ hI=>hI.elim)
end
end Go.Sv
namespace Go.Proofs
open Go Go.Sv Num
variable {G:Imm}
theorem Vh:∀ q∈(#[-1,1]:Array Rat).toList,Bq q 1:=fun q h=>by
 rcases List.mem_cons.1 h with rfl | h
 ·exact bqm
 ·rw [List.mem_singleton.1 h];exact bq1
theorem zlU:Sort.insertionSort (fun p q:Rat=>decide (p<q)) #[-1,1] 0 2= #[-1,1]:=by decide +kernel
theorem znS:dd (#[-1,1]:Array Rat).toList=[-1,1]:=by decide +kernel
theorem zpr [Tab G] {k:Nat} (hs:200*k+20000≤cap):uF Tryz.prog G zR (fun q=>Bq q k) (fun p q=>decide (p<q)) 280 []:=fun x y hx hy=>
 ⟨ue x y,wt (hx:=isQ_can) (hy:=isQ_can) (by omega),by rw [decide_eq_decide];exact zbW⟩
theorem zqn {f:FuncId} {caps:List SV} (hit:IterSpec Tryz.prog G f caps []):zp Tryz.prog G 415 [xC,wp f caps] xC:=by
 refine zs Tryz.func415 ?_;refine zr ?_;refine Run.box rfl rfl rfl rfl rfl rfl fun b2=>?_;refine zz ?_;refine zJ ?_;refine zh ?_;refine zg ?_;refine zci rfl rfl hit (by decide) rfl ?_
 intro D
 refine zg ?_
 exact zj zt
theorem zqo {f:FuncId} {caps:List SV} (hit:IterSpec Tryz.prog G f caps []):zp Tryz.prog G 342 [wp f caps] xC:=by
 refine zs Tryz.func342 ?_;refine zg ?_;refine zf (zqn hit) ?_;refine zg ?_
 exact zj zt
theorem zqp {f:FuncId} {caps:List SV} (hit:IterSpec Tryz.prog G f caps []):zp Tryz.prog G 417 [xC,wp f caps] xC:=by
 refine zs Tryz.func417 ?_;refine zr ?_;refine Run.box rfl rfl rfl rfl rfl rfl fun b2=>?_;refine zz ?_;refine zJ ?_;refine zh ?_;refine zg ?_;refine zci rfl rfl hit (by decide) rfl ?_
 intro D
 refine zg ?_
 exact zj zt
theorem zqq {f:FuncId} {caps:List SV} (hit:IterSpec Tryz.prog G f caps []):zp Tryz.prog G 344 [wp f caps] xC:=by
 refine zs Tryz.func344 ?_;refine zg ?_;refine zf (zqp hit) ?_;refine zg ?_
 exact zj zt
theorem zqr {f:FuncId} {caps:List SV} (hit:IterSpec Tryz.prog G f caps []):zp Tryz.prog G 208 [xC,wp f caps] xC:=by
 refine zs Tryz.func208 ?_;refine zr ?_;refine Run.box rfl rfl rfl rfl rfl rfl fun b2=>?_;refine zz ?_;refine zJ ?_;refine zh ?_;refine zg ?_;refine zci rfl rfl hit (by decide) rfl ?_
 intro D
 refine zg ?_
 exact zj zt
theorem zqs {f:FuncId} {caps:List SV} (hit:IterSpec Tryz.prog G f caps []):zp Tryz.prog G 155 [wp f caps] xC:=by
 refine zs Tryz.func155 ?_;refine zg ?_;refine zf (zqr hit) ?_;refine zg ?_
 exact zj zt
theorem zqt:zp Tryz.prog G 283 [xC] xC:=by
 refine zs Tryz.func283 ?_;refine zg ?_;refine zf znP ?_;refine zf (zqo znO) ?_;refine zg ?_
 exact zj zt
theorem zqu [Tab G] {p q:Rat} {k:Nat} (hp:Bq p k) (hq:Bq q k) (hs:200*k+20000≤cap):zp Tryz.prog G 282 [zl (zR p),zl (zR q)] (zm (decide (p=q))):=by
 refine zs Tryz.func282 ?_;refine zg ?_;refine zo (ze rfl rfl (wt (p:=p) (q:=q) (by omega))) ?_;refine zg ?_
 exact zj (zu (e:=by rw [←Wu]))
theorem zqv [Tab G] {p q:Rat} {k:Nat} (hp:Bq p k) (hq:Bq q k) (hs:200*k+20000≤cap):zp Tryz.prog G 285 [zl (zR p),zl (zR q)] (zm (decide (p=q))):=by
 refine zs Tryz.func285 ?_;refine zg ?_;refine zo (ze rfl rfl (wt (p:=p) (q:=q) (by omega))) ?_;refine zg ?_
 exact zj (zu (e:=by rw [←Wu]))
theorem zrl [Tab G] {k:Nat} (hs:200*k+20000≤cap):zjx Tryz.prog G zR (fun q=>Bq q k) 282 []:=fun _ _ hx hy=>zqu hx hy hs
theorem zrm [Tab G] {k:Nat} (hs:200*k+20000≤cap):zjx Tryz.prog G zR (fun q=>Bq q k) 285 []:=fun _ _ hx hy=>zqv hx hy hs
theorem zed [Tab G] {d d1:Array Rat} {bb cc n k:Nat} (hq:yu (some (bb,cc)) n) (hd:d.size=n) (hn:n≤12) (hp:∀ x∈d.toList,Bq x k) (hs:200*k+20000≤cap) (hr:Sort.insertionSort (fun p q:Rat=>decide (p<q)) d 0 n=d1):CallSpec Tryz.prog G 279 [eqS (rowV (some (bb,cc)) n),eqS (.func (.func 280) #[] #[])] [rowE (some (bb,cc)) 39 3 n (vZ zR d)] (fun v H1=>v=xn []∧H1=[rowE (some (bb,cc)) 39 3 n (vZ zR d1)]):=
 ((zeb hd (by omega) hp (zpr hs) hn hq).args (args':=[_,_]) ⟨fun _ _ h=>h,Zx,trivial⟩).mono fun v H1 ⟨h1,h2⟩=>⟨h1,by rw [h2,hr]⟩
theorem zht [Tab G] {d:Array Rat} {l:List Rat} {bb cc n m k:Nat} {fl:FuncId} (hq:yu (some (bb,cc)) n) (hd:d.size=n) (hn:n≤12) (hp:∀ x∈d.toList,Bq x k) (he:zjx Tryz.prog G zR (fun q=>Bq q k) fl []) (hr:dd d.toList=l) (hm:l.length=m):CallSpec Tryz.prog G 281 [eqS (rowV (some (bb,cc)) n),eqS (.func (.func fl) #[] #[])] [rowE (some (bb,cc)) 39 3 n (vZ zR d)] (fun v H1=>v=eqS (rowV (some (bb,cc)) m)∧H1=[rowE (some (bb,cc)) 39 3 m (l.flatMap zR)]):=
 ((zjy hd (by omega) hp he hq).args (args':=[_,_]) ⟨fun _ _ h=>h,Zx,trivial⟩).mono fun v H1 ⟨h1,h2⟩=>⟨by rw [h1,hr,hm],by rw [h2,hr,hm]⟩
theorem zqw [Tab G]:zp Tryz.prog G 214 [xC,zl (bxC ((-1,-1),(1,1)))] (zU 3 zR [-1,1]):=by
 refine zs Tryz.func214 ?_;refine zg ?_;refine zlT 8 (by kernel_rfl) rfl rfl rfl ?_;(iterate 2 refine RunE.lat (zX rfl rfl rfl) rfl rfl rfl ?_);refine RunE.lat ((show OpOK _ _ _ _ _ (zl (zR (-1))) from zF rfl rfl rfl rfl)) rfl rfl rfl ?_;refine RunE.lat (ze rfl rfl (vh (q:= -1) (k:=1) (by decide))) rfl rfl rfl ?_;(iterate 2 refine RunE.lat (zX rfl rfl rfl) rfl rfl rfl ?_);refine RunE.lat ((show OpOK _ _ _ _ _ (zl (zR (1))) from zF rfl rfl rfl rfl)) rfl rfl rfl ?_;refine RunE.lat (ze rfl rfl (vh (q:=1) (k:=1) (by decide))) rfl rfl rfl ?_;refine RunE.nil ?_;refine EffR.mk1 rfl rfl (by decide) rfl (.inr (by simp)) rfl (by kernel_rfl) rfl rfl rfl rfl rfl rfl rfl rfl rfl rfl rfl rfl fun b19 b5 hb19=>?_;refine zg ?_;refine xg fun b6=>?_;refine zw ?_;refine zJ ?_;refine zh ?_;refine zg ?_;refine zo (vk rfl rfl) ?_;refine zg ?_;refine wR ?_;refine zr ?_;refine zz ?_;refine zJ ?_;refine zh ?_;refine zd (fun h24 k24=>?_) fun _ k24=>?_
 ·exact (by simp at h24)
 ·refine zI ?_;refine zh ?_;refine zg ?_;refine zf znR ?_;refine zg ?_;refine zci rfl rfl znQ (by decide) rfl ?_
  intro D
  refine zg ?_;refine Run.callH [_,_] [_] [] rfl rfl rfl rfl (zed (d:= #[-1,1]) (k:=1) hb19 rfl (by decide) Vh (by decide) zlU) rfl rfl rfl ?_
  rintro s41 H41 ⟨rfl,rfl⟩
  refine zg ?_;refine Run.callH [_,_] [_] [] rfl rfl rfl rfl (zht (d:= #[-1,1]) (k:=1) hb19 rfl (by decide) Vh (zrl (by decide)) znS rfl) rfl rfl rfl ?_
  rintro s43 H43 ⟨rfl,rfl⟩
  refine Run.ghost _ rfl (yU 2 43 rfl rfl hb19 (l:=[-1,1]) (f:=zR) rfl rfl (fun _ _=>rfl) (by decide)) ?_;refine zg ?_
  exact zj zt
end Go.Proofs
namespace Go.Proofs
open Go Go.Sv Num
variable {G:Imm}
theorem zcj {q:Option (Nat×Nat)} {n:Nat} (h:yu q n) (hn:0<n):∃ b c,q=some (b,c):=by
 cases q with
 | none=>exact absurd h (by unfold yu;omega)
 | some q=>exact⟨q.1,q.2,rfl⟩
def znT (a b:Rat×Rat):Bool:=decide (a.1+a.2<b.1+b.2∨(a.1+a.2=b.1+b.2∧a.1<b.1))
def lvZ (a b:Rat×Rat):Int:=if ue (a.1+a.2) (b.1+b.2)≠0 then ue (a.1+a.2) (b.1+b.2) else ue a.1 b.1
theorem znU {a b:Rat×Rat}:decide (lvZ a b<0)=znT a b:=by
 unfold znT lvZ
 rw [decide_eq_decide]
 split
 ·rename_i h
  rw [zbW]
  exact⟨.inl,fun h1=>h1.elim id fun h2=>absurd (Ww.2 h2.1) h⟩
 ·rename_i h
  have h0:=Ww.1 (Decidable.not_not.1 h)
  rw [zbW]
  exact⟨fun h1=>.inr ⟨h0,h1⟩,fun h1=>h1.elim (fun h2=>by rw [h0] at h2;exact absurd h2 Rat.lt_irrefl) (·.2)⟩
abbrev Bl (k:Nat) (l:Rat×Rat):Prop:=Bq l.1 k∧Bq l.2 k
abbrev lvR (l:List (Rat×Rat)):List SV:=[zU 6 Zq l]
def ui:List (Rat×Rat):=[(-1,-1),(1,1)]
theorem zck:∀ q∈(#[(-1,-1),(1,1)]:Array (Rat×Rat)).toList,Bl 1 q:=fun q h=>by
 rcases List.mem_cons.1 h with rfl | h
 ·exact⟨bqm,bqm⟩
 ·rw [List.mem_singleton.1 h];exact⟨bq1,bq1⟩
theorem zjA:Sort.insertionSort znT #[(-1,-1),(1,1)] 0 2= #[(-1,-1),(1,1)]:=by decide +kernel
theorem zee:dd (#[(-1,-1),(1,1)]:Array (Rat×Rat)).toList=[(-1,-1),(1,1)]:=by decide +kernel
theorem zoA [Tab G] {q:Rat} {k:Nat} (hq:Bq q k) (hs:2*k+11000≤cap):zp Tryz.prog G 346 [zl (zR q)] (zl (Zq (q,q))):=by
 refine zs Tryz.func346 ?_;refine zr ?_;refine Run.box rfl rfl rfl rfl rfl rfl fun b1=>?_;refine xg fun b2=>?_;refine zg ?_;refine zo (ze rfl rfl (vh (q:=q) (by omega))) ?_;refine zg ?_
 exact zj zt
theorem zrn [Tab G] {a b:Rat×Rat} {k:Nat} (ha:Bl k a) (hb:Bl k b) (hs:1000*k+21000≤cap):zp Tryz.prog G 348 [zl (Zq a),zl (Zq b)] (intS .i64 (lvZ a b)):=by
 have ha1:=ha.1
 have ha2:=ha.2
 have hb1:=hb.1
 have hb2:=hb.2
 have hk:=ha1.pos
 refine zs Tryz.func348 ?_;refine zr ?_;(iterate 3 refine zz ?_);refine zJ ?_;refine zh ?_;refine zS 14 (by kernel_rfl) ?_;refine zg ?_;refine zo (zB rfl rfl (by decide) rfl (by simp) rfl rfl) ?_;refine zo (ze rfl rfl (uD (p:=a.1) (q:=a.2) (by omega))) ?_;refine zg ?_;refine zo (zB rfl rfl (by decide) rfl (by simp) rfl rfl) ?_;refine zo (ze rfl rfl (uD (p:=b.1) (q:=b.2) (by omega))) ?_;refine zo (ze rfl rfl (wt (p:=a.1+a.2) (q:=b.1+b.2) (by omega))) ?_;refine zg ?_;refine zd (fun _ k20=>?_) fun _ k20=>?_
 ·refine zg ?_
  exact zj (zu (e:=congrArg (intS .i64) (by unfold lvZ;rw [if_pos k20])))
 ·refine zg ?_;refine zo (ze rfl rfl (wt (p:=a.1) (q:=b.1) (by omega))) ?_;refine zg ?_
  exact zj (zu (e:=congrArg (intS .i64) (by unfold lvZ;rw [if_neg (fun h=>h k20)])))
theorem zqy [Tab G] {a b:Rat×Rat} {k:Nat} (ha:Bl k a) (hb:Bl k b) (hs:1000*k+21000≤cap):zp Tryz.prog G 350 [zl (Zq a),zl (Zq b)] (zm (decide (a=b))):=by
 have ha1:=ha.1
 have ha2:=ha.2
 have hb1:=hb.1
 have hb2:=hb.2
 refine zs Tryz.func350 ?_;refine zr ?_;(iterate 3 refine zz ?_);refine zx ?_;refine zz ?_;refine zz ?_;refine zz ?_;refine zz ?_
 refine Run.oneB (ze rfl rfl (KZ (p:=a.1) (q:=b.1) (by omega))) rfl rfl rfl (fun h1_4=>?_) (fun h1_4=>?_)
 ·refine zg ?_;refine zo (ze rfl rfl (KZ (p:=a.2) (q:=b.2) (by omega))) ?_;refine zg ?_
  exact zj (zu (e:=congrArg zm (by rw [decide_eq_decide,Prod.ext_iff];exact⟨fun h=>⟨of_decide_eq_true h1_4,h⟩,fun h=>h.2⟩)))
 ·refine zg ?_
  exact zj (zu (e:=congrArg zm (decide_eq_false fun h=>of_decide_eq_false h1_4 (by rw [h])).symm))
theorem zps [Tab G] {k:Nat} (hs:1000*k+21000≤cap):uF Tryz.prog G Zq (Bl k) znT 348 []:=fun _ _ hx hy=>⟨_,zrn hx hy hs,znU⟩
theorem zro [Tab G] {k:Nat} (hs:1000*k+21000≤cap):zjx Tryz.prog G Zq (Bl k) 350 []:=fun _ _ hx hy=>zqy hx hy hs
theorem zqz {x y:SV}:IterSpec Tryz.prog G 418 [zT [xC],x,y] []:=by
 refine xH Tryz.func418 rfl rfl rfl rfl fun l E hy=>?_;refine zg ?_;refine zo (vk rfl rfl) ?_;refine zg ?_;refine wR ?_;refine zr ?_;refine zz ?_;refine zJ ?_;refine zh ?_;refine zd (fun h14 k14=>?_) fun _ k14=>?_
 ·exact (by simp at h14)
 ·refine zI ?_
  exact⟨.inr rfl,.inl rfl⟩
theorem zqA {p q:Rat}:zp Tryz.prog G 345 [zl (zR p),zl (zR q),xC] (wp 418 [zT [xC],zT (zR p),zT (zR q)]):=by
 refine zs Tryz.func345 ?_;refine zg ?_
 exact zj zt
theorem zpt [Tab G]:zp Tryz.prog G 284 [zl (zR (-1)),zl (zR 1),zl (bxC ((-1,-1),(1,1))),xC] (zU 6 Zq ui):=by
 refine zs Tryz.func284 ?_;refine zr ?_;(iterate 4 refine zz ?_);refine zJ ?_;refine zh ?_;refine zg ?_;refine zo ((ze rfl rfl (wt (p:= -1) (q:=1) (by decide))).sub (zD (n:= -1) (by decide +kernel))) ?_;refine zg ?_;refine zd (fun h13 k13=>?_) fun _ k13=>?_
 ·exact (by simp at h13)
 ·refine zE ?_;refine zP (yL 350 6) ?_;refine wH 15 [14] _ (by kernel_rfl) (.cons _ .slnil) ?_;refine RunE.one ((show OpOK _ _ _ _ _ (zl (zR (-1))) from zF rfl rfl rfl rfl)) rfl rfl rfl (by kernel_rfl) ?_;refine RunE.one ((show OpOK _ _ _ _ _ (zl (zR (1))) from zF rfl rfl rfl rfl)) rfl rfl rfl (by kernel_rfl) ?_;refine RunE.one (zG rfl rfl) rfl rfl rfl (by kernel_rfl) ?_;refine RunE.one (ze rfl rfl zqA) rfl rfl rfl (by kernel_rfl) ?_;refine RunE.one (ze rfl rfl (zqq zqz)) rfl rfl rfl (by kernel_rfl) ?_;(iterate 2 refine RunE.one (zX rfl rfl rfl) rfl rfl rfl (by kernel_rfl) ?_);refine RunE.one ((show OpOK _ _ _ _ _ (zl (zR (-1))) from zF rfl rfl rfl rfl)) rfl rfl rfl (by kernel_rfl) ?_;refine RunE.one (ze rfl rfl (zoA bqm (by decide))) rfl rfl rfl (by kernel_rfl) ?_;(iterate 2 refine RunE.one (zX rfl rfl rfl) rfl rfl rfl (by kernel_rfl) ?_);refine RunE.one ((show OpOK _ _ _ _ _ (zl (zR (1))) from zF rfl rfl rfl rfl)) rfl rfl rfl (by kernel_rfl) ?_;refine RunE.one (ze rfl rfl (zoA bq1 (by decide))) rfl rfl rfl (by kernel_rfl) ?_;refine RunE.one (zB rfl rfl (by decide) rfl (by simp) (by kernel_rfl) (by kernel_rfl)) rfl rfl rfl (by kernel_rfl) ?_
  refine RunE.nil ⟨_,rfl,?_⟩
  refine EffM.append 0 rfl rfl rfl rfl rfl rfl rfl rfl (rfl) (fun z hz=>by rcases List.mem_cons.1 hz with rfl | hz;rfl;rw [List.mem_singleton.1 hz];rfl) (by decide) (by decide) fun q28 hq28=>⟨(.cons _ .slnil),?_⟩
  refine RunE.nil ?_
  obtain⟨b28,c28,rfl⟩:=zcj hq28 (by decide)
  refine zg ?_;refine Run.callH [] [_] [] rfl rfl rfl rfl (((zec (n:=2) (d:= #[(-1,-1),(1,1)]) (p:=Bl 1) rfl (by decide) zck (zps (by decide)) (by decide) hq28).args (args':=[_,_]) ⟨fun _ _ h=>h,Zx,trivial⟩).mono (Q':=fun v H1=>v=xn []∧H1=[rowE (some (b28,c28)) 350 6 2 (vZ Zq #[(-1,-1),(1,1)])]) fun v H1 ⟨h1,h2⟩=>⟨h1,by rw [h2,zjA]⟩) rfl rfl rfl ?_
  rintro s30 H30 ⟨rfl,rfl⟩
  refine zg ?_;refine Run.callH [] [_] [] rfl rfl rfl rfl (((zjz (n:=2) (d:= #[(-1,-1),(1,1)]) (p:=Bl 1) rfl (by decide) zck (zro (by decide)) hq28).args (args':=[_,_]) ⟨fun _ _ h=>h,Zx,trivial⟩).mono (Q':=fun v H1=>v=eqS (rowV (some (b28,c28)) 2)∧H1=[rowE (some (b28,c28)) 350 6 2 (ui.flatMap Zq)]) fun v H1 ⟨h1,h2⟩=>⟨by rw [h1,zee];rfl,by rw [h2,zee];rfl⟩) rfl rfl rfl ?_
  rintro s32 H32 ⟨rfl,rfl⟩
  refine Run.ghost _ rfl (yU 0 32 rfl rfl hq28 (l:=ui) (f:=Zq) rfl rfl (fun _ _=>rfl) (by decide)) ?_;refine zg ?_
  exact zj zt
theorem znV [Tab G]:zp Tryz.prog G 215 [xC,zl (bxC ((-1,-1),(1,1))),zU 3 zR [-1,1]] (zU 1 lvR [ui]):=by
 refine zs Tryz.func215 ?_;refine zg ?_;refine zf zqt ?_;refine zz ?_;refine zJ ?_;refine zh ?_;refine zP (yL 347 1) ?_;refine zr ?_;refine zz ?_;refine zo ((xh rfl rfl).sub (zD (n:=((2:Nat):Int)) rfl)) ?_;refine zo (yA (z:=1) rfl rfl rfl (congrArg some (by omega)) (wrap_i64 (by omega) (by omega))) ?_;refine zo ((YC rfl rfl rfl).sub (zD (n:=((1:Nat):Int)) (by decide))) ?_;refine zg ?_;refine yX (fun (g:Nat) (q:Option (Nat×Nat))=>⟨_,[(15,intS .i64 (g:Nat)),(14,intS .i64 ((1:Nat):Int)),(7,xC),(6,eqS (rowV q g)),(4,zT (bxC ((-1,-1),(1,1)))),(2,zU 3 zR [-1,1])],[rowE q 347 1 g (([ui].take g).flatMap lvR)],[],(0,false)⟩) (fun g q=>g≤1∧yu q g) (fun g _=>1-g) 0 none ⟨Nat.zero_le _,rfl⟩ (zL zk rfl) ?_
 rintro g q ⟨hg,hq⟩
 refine zr ?_;refine zz ?_;refine zJ ?_;refine zh ?_;refine zd (fun _ k16=>?_) fun _ k16=>?_
 ·obtain rfl:g=0:=by omega
  refine zE ?_;refine zh ?_;refine zg ?_;refine vj 15 [14] _ (by kernel_rfl) (.cons _ .slnil) ?_;(iterate 3 refine RunE.one (zG rfl rfl) rfl rfl rfl (by kernel_rfl) ?_);refine RunE.one (zi rfl rfl rfl (by omega) (y:=(-1)) (rfl)) rfl rfl rfl (by kernel_rfl) ?_;refine RunE.one ((show OpOK _ _ _ _ _ (zl (zR (-1))) from zF rfl rfl rfl rfl)) rfl rfl rfl (by kernel_rfl) ?_;(iterate 2 refine RunE.one (zG rfl rfl) rfl rfl rfl (by kernel_rfl) ?_);refine RunE.one (yA (z:=1) rfl rfl rfl (congrArg some (by omega)) (wrap_i64 (by omega) (by omega))) rfl rfl rfl (by kernel_rfl) ?_;refine RunE.one (zi rfl rfl rfl (by omega) (y:=1) (rfl)) rfl rfl rfl (by kernel_rfl) ?_;refine RunE.one ((show OpOK _ _ _ _ _ (zl (zR (1))) from zF rfl rfl rfl rfl)) rfl rfl rfl (by kernel_rfl) ?_;refine RunE.one ((show OpOK _ _ _ _ _ (zl (bxC ((-1,-1),(1,1)))) from zF rfl rfl rfl rfl)) rfl rfl rfl (by kernel_rfl) ?_;refine RunE.one (zG rfl rfl) rfl rfl rfl (by kernel_rfl) ?_;refine RunE.one (ze rfl rfl zpt) rfl rfl rfl (by kernel_rfl) ?_;refine RunE.one (zB rfl rfl (by decide) rfl (by simp) rfl rfl) rfl rfl rfl (by kernel_rfl) ?_
  refine RunE.nil ⟨_,rfl,?_⟩
  refine EffM.append 0 rfl rfl rfl rfl rfl rfl rfl hq (rfl) (fun z hz=>by rw [List.mem_singleton.1 hz];rfl) (by decide) (by decide) fun q32 hq32=>⟨(.cons _ .slnil),?_⟩
  refine RunE.nil ?_;refine zg ?_;refine za ((1:Nat):Int) ?_;refine zg ?_
  exact⟨1,q32,⟨by omega,hq32⟩,by omega,zL zk rfl⟩
 ·obtain rfl:g=1:=by omega
  refine zI ?_;refine zP (yU 0 6 rfl rfl hq (l:=[ui]) (f:=lvR) rfl rfl (fun _ _=>rfl) (by decide)) ?_;refine zg ?_
  exact zj zt
end Go.Proofs
